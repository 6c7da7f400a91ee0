/-
Plain laws on headers: what the reference's printed functions tell is what the program's walks tell.
Conditions: none.
-/
import Derived.Test.YtonkgfgciegknaaHandGroup8
import Derived.Test.YtonkgfgciegknaaPx5
import Derived.Test.YtonkgfgciegknaaPx6
import Derived.Test.YtonkgfgciegknaaPx8
import Derived.Test.YtonkgfgciegknaaPx10
import Derived.Test.YtonkgfgciegknaaPx12
import Derived.Test.YtonkgfgciegknaaPx11
namespace Go.Proofs.Ytonkgfgciegknaa.P
open Go.RowKit Go.Proofs.YtonkgfgciegknaaW.PrintWords Go.Proofs.YtonkgfgciegknaaW.PrintLast Go.Proofs.YtonkgfgciegknaaW.PrintMore
attribute [local go_sem] max2_int min2_int max_two min_two max_three min_three max_four min_four
set_option linter.unusedVariables false
set_option linter.unusedSimpArgs false
open Bits (bitS bitZ isBytes setS cnt mostS rd_eq byte_at setS_length setS_bytes setS_bit bitS_beyond)
theorem wr {x : Int} (h0 : -9223372036854775808 ≤ x) (h1 : x ≤ 9223372036854775807) : wrap64 x = x := by unfold wrap64; omega
theorem or_byte : ∀ (x : Fin 256) (k : Fin 9), (Go.bits .or .u8 (x.val : Int) (2 ^ k.val - 1) = (x.val : Int)) ↔ ∀ j : Fin 8, j.val < k.val → x.val / 2 ^ j.val % 2 = 1 := by decide +kernel
theorem ones_byte : ∀ (n : Fin 18) (j : Fin 16), rd (onesL n.val) (j.val : Int) = 2 ^ (min 8 (n.val - 8 * j.val)) - 1 := by decide +kernel
theorem slots_byte : ∀ j : Fin 8, rd ((zeros 8).set 0 3) (j.val : Int) = 2 ^ (min 8 (2 - 8 * j.val)) - 1 := by decide +kernel
theorem zeros_byte : ∀ j : Fin 8, rd (zeros 8) (j.val : Int) = 2 ^ (min 8 (0 - 8 * j.val)) - 1 := by decide +kernel
theorem bit_of (l : List Int) (hb : isBytes l) (i : Nat) (hi : i < 8 * l.length) (x : Fin 256) (hx : rd l ((i / 8 : Nat) : Int) = (x.val : Int)) : bitS l i = true ↔ x.val / 2 ^ (i % 8) % 2 = 1 := by
  unfold bitS
  rw [decide_eq_true hi, hx, Bool.true_and, beq_iff_eq, Int.toNat_natCast]
theorem orUp_iff (n : Nat) (l o : List Int) (m : Nat) (hl : l.length = n) (hb : isBytes l) (hm : m ≤ 8 * n) (ho : ∀ j, j < n → rd o (j : Int) = 2 ^ (min 8 (m - 8 * j)) - 1) : orUp n l o n = l ↔ ∀ i, i < m → bitS l i = true := by
  have h1 : orUp n l o n = l ↔ ∀ j, j < n → Go.bits .or .u8 (rd l (j : Int)) (rd o (j : Int)) = rd l (j : Int) := by
    constructor
    · intro h j hj
      have h2 := congrArg (fun q => q[j]?) h
      simp only [orUp, List.getElem?_map, List.getElem?_range hj, Option.map_some, if_pos hj] at h2
      rw [List.getElem?_eq_getElem (by omega)] at h2
      injection h2 with h2
      rw [h2, rd_eq l j (by omega)]
    · intro h
      refine List.ext_getElem (by rw [orUp_length, hl]) fun j h1 h2 => ?_
      simp only [orUp, List.getElem_map, List.getElem_range]
      rw [if_pos (by omega), h j (by omega), rd_eq l j (by omega)]
  rw [h1]
  constructor
  · intro h i hi
    obtain ⟨x, hx⟩ := byte_at hb (i := i) (by omega)
    rw [bit_of l hb i (by omega) x hx]
    have := h (i / 8) (by omega)
    rw [hx, ho (i / 8) (by omega)] at this
    have hk : min 8 (m - 8 * (i / 8)) < 9 := by omega
    exact (or_byte x ⟨min 8 (m - 8 * (i / 8)), hk⟩).mp this ⟨i % 8, by omega⟩ (by show i % 8 < min 8 (m - 8 * (i / 8)); omega)
  · intro h j hj
    obtain ⟨x, hx⟩ := byte_at hb (i := 8 * j) (by omega)
    rw [show 8 * j / 8 = j by omega] at hx
    have hk : min 8 (m - 8 * j) < 9 := by omega
    rw [hx, ho j hj]
    refine (or_byte x ⟨min 8 (m - 8 * j), hk⟩).mpr fun t ht => ?_
    have ht' : t.val < min 8 (m - 8 * j) := ht
    have h2 := h (8 * j + t.val) (by omega)
    rw [bit_of l hb (8 * j + t.val) (by omega) x (by rw [show (8 * j + t.val) / 8 = j by omega]; exact hx), show (8 * j + t.val) % 8 = t.val by omega] at h2
    exact h2
theorem cnt_eq (g : Nat → Bool) (a : Nat) : ∀ d, cnt g (a + d) = cnt g a ↔ ∀ i, a ≤ i → i < a + d → g i = false := by
  have mono : ∀ d, cnt g a ≤ cnt g (a + d) := by
    intro d
    induction d with
    | zero => exact Nat.le_refl _
    | succ d ih => rw [← Nat.add_assoc, cnt]; omega
  intro d
  induction d with
  | zero => exact ⟨fun _ i h1 h2 => by omega, fun _ => rfl⟩
  | succ d ih =>
    rw [← Nat.add_assoc, cnt]
    have := mono d
    constructor
    · intro h i h1 h2
      by_cases hg : g (a + d) = true
      · rw [if_pos hg] at h; omega
      · rw [if_neg hg] at h
        by_cases e : i = a + d
        · rw [e]; simpa using hg
        · exact ih.mp (by omega) i h1 (by omega)
    · intro h
      rw [if_neg (by rw [h (a + d) (by omega) (by omega)]; decide), ih.mpr (fun i h1 h2 => h i h1 (by omega))]
      omega
theorem cntZ_eq (l : List Int) (a b : Nat) (hab : a ≤ b) (hb : b ≤ 8 * l.length) : (cntZ l (a : Int) == cntZ l (b : Int)) = true ↔ ∀ i, a ≤ i → i < b → bitS l i = false := by
  have ha : mostS l (a : Int) = a := by unfold mostS; omega
  have hb' : mostS l (b : Int) = b := by unfold mostS; omega
  unfold cntZ
  rw [ha, hb', beq_iff_eq]
  obtain ⟨d, rfl⟩ : ∃ d, b = a + d := ⟨b - a, by omega⟩
  rw [← cnt_eq]
  omega
/-- What a header must be. -/
def rightS (G I N no : Int) (bl sl : List Int) : Prop :=
  okS G I N no = true ∧ (∀ i : Nat, i < 128 → ((i : Int) < 1 + I / 4 → bitS bl i = true) ∧ (G ≤ i → bitS bl i = false)) ∧ ∀ i : Nat, i < 64 → (I ≤ i → bitS sl i = false) ∧ (no = 0 → i < 2 → bitS sl i = true)
theorem rightP_iff {G I N no : Int} {bl sl : List Int} (h : HM bl sl) : rightP G I N no bl sl = true ↔ rightS G I N no bl sl := by
  unfold rightP rightS
  simp only [Bool.and_eq_true, decide_eq_true_eq]
  by_cases hok : okS G I N no = true
  · have hR : Geo.R G I N = true := by unfold okS at hok; simp only [Bool.and_eq_true] at hok; exact hok.1.1
    have hr := Geo.R_iff.mp hR
    obtain ⟨n, hn⟩ : ∃ n : Nat, (n : Int) = 1 + I / 4 := ⟨(1 + I / 4).toNat, by omega⟩
    obtain ⟨gn, hg⟩ : ∃ n : Nat, (n : Int) = G := ⟨G.toNat, by omega⟩
    obtain ⟨im, hi⟩ : ∃ n : Nat, (n : Int) = I := ⟨I.toNat, by omega⟩
    have hl1 := h.maps.1
    have hl2 := h.maps.2
    have e1 : orUp 16 bl (onesL (1 + I / 4).toNat) 16 = bl ↔ ∀ i, i < n → bitS bl i = true := by
      rw [show (1 + I / 4).toNat = n by omega]
      exact orUp_iff 16 bl (onesL n) n hl1 h.bytes (by omega) (fun j hj => ones_byte ⟨n, by omega⟩ ⟨j, hj⟩)
    have e2 : orUp 8 sl (slots0 no) 8 = sl ↔ ∀ i, i < (if no = 0 then 2 else 0) → bitS sl i = true := by
      unfold slots0
      by_cases h0 : no = 0
      · rw [if_pos h0, if_pos h0]
        exact orUp_iff 8 sl _ 2 hl2 h.bytes2 (by omega) (fun j hj => slots_byte ⟨j, hj⟩)
      · rw [if_neg h0, if_neg h0]
        exact orUp_iff 8 sl _ 0 hl2 h.bytes2 (by omega) (fun j hj => zeros_byte ⟨j, hj⟩)
    have e3 : (cntZ bl G == cntZ bl 128) = true ↔ ∀ i, gn ≤ i → i < 128 → bitS bl i = false := by rw [← hg]; exact cntZ_eq bl gn 128 (by omega) (by omega)
    have e4 : (cntZ sl I == cntZ sl 64) = true ↔ ∀ i, im ≤ i → i < 64 → bitS sl i = false := by rw [← hi]; exact cntZ_eq sl im 64 (by omega) (by omega)
    rw [e1, e2, e3, e4]
    constructor
    · rintro ⟨_, a, b, c, d⟩
      exact ⟨hok, fun i hi => ⟨fun q => a i (by omega), fun q => c i (by omega) hi⟩, fun i hi => ⟨fun q => d i (by omega) hi, fun q1 q2 => b i (by rw [if_pos q1]; exact q2)⟩⟩
    · rintro ⟨_, a, b⟩
      refine ⟨hok, fun i hi => (a i (by omega)).1 (by omega), fun i hi => ?_, fun i h1 h2 => (a i h2).2 (by omega), fun i h1 h2 => (b i h2).1 (by omega)⟩
      by_cases h0 : no = 0
      · rw [if_pos h0] at hi
        exact (b i (by omega)).2 h0 hi
      · rw [if_neg h0] at hi; omega
  · exact ⟨fun q => absurd q.1 hok, fun q => absurd q.1 hok⟩
/-! ### The reference's Right -/
def goodB (G I : Int) (bl : List Int) (i : Nat) : Bool := !((decide ((i : Int) < 1 + I / 4) && !bitS bl i) || (decide (G ≤ (i : Int)) && bitS bl i))
def goodS' (I no : Int) (sl : List Int) (i : Nat) : Bool := !((decide (I ≤ (i : Int)) && bitS sl i) || (decide (no = 0) && (decide (i < 2) && !bitS sl i)))
def allFrom (g : Nat → Bool) : Nat → Nat → Bool
  | _, 0 => true
  | i, d + 1 => g i && allFrom g (i + 1) d
theorem allFrom_iff (g : Nat → Bool) : ∀ d i, allFrom g i d = true ↔ ∀ j, i ≤ j → j < i + d → g j = true
  | 0, i => ⟨fun _ j h1 h2 => by omega, fun _ => rfl⟩
  | d + 1, i => by
    rw [allFrom, Bool.and_eq_true, allFrom_iff g d (i + 1)]
    constructor
    · rintro ⟨h0, h⟩ j h1 h2
      by_cases e : j = i
      · rw [e]; exact h0
      · exact h j (by omega) (by omega)
    · intro h
      exact ⟨h i (by omega) (by omega), fun j h1 h2 => h j (by omega) (by omega)⟩
theorem refRight_l1 (G I N no : Int) (bl sl : List Int) (h : HM bl sl) : ∀ (d i k : Nat) (b : Bool), i + d = 64 → d < k → leveeref06_Right.l1 k b (i : Int) G I N no bl sl = some (b && allFrom (goodS' I no sl) i d) := by
  intro d
  induction d with
  | zero =>
    intro i k b hi hk
    obtain ⟨k, rfl⟩ : ∃ m, k = m + 1 := ⟨k - 1, by omega⟩
    unfold leveeref06_Right.l1
    rw [if_neg (by omega), allFrom, Bool.and_true]
  | succ d ih =>
    intro i k b hi hk
    obtain ⟨k, rfl⟩ : ∃ m, k = m + 1 := ⟨k - 1, by omega⟩
    have hw : wrap64 ((i : Int) + 1) = ((i + 1 : Nat) : Int) := by rw [wr (by omega) (by omega)]; omega
    have hg : leveeref05_Get.f sl (i : Int) = some (bitS sl i) := by rw [Bits.refGet_eq sl h.bytes2 (by have := h.maps.2; omega) _ (by omega), Bits.bitZ_nat]
    unfold leveeref06_Right.l1
    rw [if_pos (by omega), hg, hw]
    simp only [Option.bind_some]
    rw [ih (i + 1) k _ (by omega) (by omega), ih (i + 1) k _ (by omega) (by omega), show allFrom (goodS' I no sl) i (d + 1) = (goodS' I no sl i && allFrom (goodS' I no sl) (i + 1) d) from rfl]
    generalize allFrom (goodS' I no sl) (i + 1) d = r
    unfold goodS'
    by_cases h1 : (i : Int) ≥ I <;> by_cases h2 : no = 0 <;> by_cases h3 : (i : Int) < 2 <;> cases hb : bitS sl i <;> simp [h1, h2, h3, hb, show I ≤ (i : Int) ↔ (i : Int) ≥ I from Iff.rfl, show i < 2 ↔ (i : Int) < 2 from by omega]
theorem refRight_l0 (G I N no : Int) (bl sl : List Int) (h : HM bl sl) (hI : 0 ≤ I ∧ I ≤ 1000) : ∀ (d i k : Nat) (b : Bool), i + d = 128 → d + 66 < k → leveeref06_Right.l0 k b (i : Int) G I N no bl sl = some (b && (allFrom (goodB G I bl) i d && allFrom (goodS' I no sl) 0 64)) := by
  intro d
  induction d with
  | zero =>
    intro i k b hi hk
    obtain ⟨k, rfl⟩ : ∃ m, k = m + 1 := ⟨k - 1, by omega⟩
    unfold leveeref06_Right.l0
    rw [if_neg (by omega), allFrom, Bool.true_and]
    exact refRight_l1 G I N no bl sl h 64 0 k b (by omega) (by omega)
  | succ d ih =>
    intro i k b hi hk
    obtain ⟨k, rfl⟩ : ∃ m, k = m + 1 := ⟨k - 1, by omega⟩
    have hw : wrap64 ((i : Int) + 1) = ((i + 1 : Nat) : Int) := by rw [wr (by omega) (by omega)]; omega
    have hq : wrap64 (1 + wrap64 (Int.tdiv I 4)) = 1 + I / 4 := by rw [Int.tdiv_eq_ediv_of_nonneg hI.1, wr (x := I / 4) (by omega) (by omega), wr (by omega) (by omega)]
    have hg : leveeref05_Get.f bl (i : Int) = some (bitS bl i) := by rw [Bits.refGet_eq bl h.bytes (by have := h.maps.1; omega) _ (by omega), Bits.bitZ_nat]
    unfold leveeref06_Right.l0
    rw [if_pos (by omega), hg, hw, hq]
    simp only [Option.bind_some]
    rw [ih (i + 1) k _ (by omega) (by omega), ih (i + 1) k _ (by omega) (by omega), show allFrom (goodB G I bl) i (d + 1) = (goodB G I bl i && allFrom (goodB G I bl) (i + 1) d) from rfl]
    generalize allFrom (goodS' I no sl) 0 64 = c
    generalize allFrom (goodB G I bl) (i + 1) d = r
    unfold goodB
    by_cases h1 : (i : Int) < 1 + I / 4 <;> by_cases h2 : (i : Int) ≥ G <;> cases hb : bitS bl i <;> simp [h1, h2, hb, show G ≤ (i : Int) ↔ (i : Int) ≥ G from Iff.rfl, Bool.and_assoc]
theorem refRight_eq (G I N no : Int) (bl sl : List Int) (h : HM bl sl) (k : Nat) (hk : 200 < k) : leveeref06_Right.f k G I N no bl sl = some (rightP G I N no bl sl) := by
  obtain ⟨k, rfl⟩ : ∃ m, k = m + 1 := ⟨k - 1, by omega⟩
  have hj : ∀ b, leveeref06_Right.j0 (k + 1) b G I N no bl sl = if b = true then some false else leveeref06_Right.l0 k true 0 G I N no bl sl := fun b => by unfold leveeref06_Right.j0; rfl
  unfold leveeref06_Right.f
  rw [Geo.refRight_eq, Option.bind_some]
  simp only [hj]
  have hno : okS G I N no ≠ true → some false = some (rightP G I N no bl sl) := fun hn => by
    unfold rightP
    rw [Bool.eq_false_iff.mpr hn, Bool.false_and]
  by_cases hR : Geo.R G I N = true
  · rw [if_pos hR]
    by_cases h0 : no < 0
    · rw [if_pos h0, if_pos trivial]
      exact hno (by intro q; unfold okS at q; simp only [Bool.and_eq_true, decide_eq_true_eq] at q; omega)
    · rw [if_neg h0]
      by_cases h1 : no ≥ N
      · rw [if_pos h1, if_pos trivial]
        exact hno (by intro q; unfold okS at q; simp only [Bool.and_eq_true, decide_eq_true_eq] at q; omega)
      · rw [if_neg h1, if_pos (by rw [h.maps.1]; rfl), if_neg (by rw [h.maps.2]; decide)]
        have hr := Geo.R_iff.mp hR
        have := refRight_l0 G I N no bl sl h ⟨by omega, by omega⟩ 128 0 k true (by omega) (by omega)
        rw [show ((0 : Nat) : Int) = 0 from rfl] at this
        rw [this, Bool.true_and]
        congr 1
        have hok : okS G I N no = true := by unfold okS; rw [hR]; simp only [Bool.true_and, Bool.and_eq_true, decide_eq_true_eq]; omega
        rw [Bool.eq_iff_iff, rightP_iff h, rightS, Bool.and_eq_true, allFrom_iff, allFrom_iff]
        unfold goodB goodS'
        simp only [Bool.not_eq_true', Bool.or_eq_false_iff, Bool.and_eq_false_iff, decide_eq_false_iff_not, Bool.not_eq_false']
        constructor
        · rintro ⟨a, b⟩
          refine ⟨hok, fun i hi => ⟨fun q => ?_, fun q => ?_⟩, fun i hi => ⟨fun q => ?_, fun q1 q2 => ?_⟩⟩
          · exact ((a i (by omega) (by omega)).1).elim (fun z => absurd q z) id
          · exact ((a i (by omega) (by omega)).2).elim (fun z => absurd q z) id
          · exact ((b i (by omega) (by omega)).1).elim (fun z => absurd q z) id
          · exact ((b i (by omega) (by omega)).2).elim (fun z => absurd q1 z) (fun z => z.elim (fun z => absurd q2 z) id)
        · rintro ⟨_, a, b⟩
          refine ⟨fun i _ hi => ⟨?_, ?_⟩, fun i _ hi => ⟨?_, ?_⟩⟩
          · by_cases q : (i : Int) < 1 + I / 4
            · exact .inr ((a i (by omega)).1 q)
            · exact .inl q
          · by_cases q : G ≤ (i : Int)
            · exact .inr ((a i (by omega)).2 q)
            · exact .inl q
          · by_cases q : I ≤ (i : Int)
            · exact .inr ((b i (by omega)).1 q)
            · exact .inl q
          · by_cases q : no = 0
            · by_cases q2 : i < 2
              · exact .inr (.inr ((b i (by omega)).2 q q2))
              · exact .inr (.inl q2)
            · exact .inl q
  · rw [if_neg hR, if_pos trivial]
    exact hno (by intro q; unfold okS at q; simp only [Bool.and_eq_true, decide_eq_true_eq] at q; exact hR q.1.1)
/-! ### Fresh -/
theorem ones_bytes : ∀ i : Fin 18, ∀ x ∈ onesL i.val, 0 ≤ x ∧ x < 256 := by decide +kernel
theorem slots_bytes (no : Int) : isBytes (slots0 no) := by
  unfold slots0
  intro x hx
  split at hx
  · exact (show ∀ x ∈ (zeros 8).set 0 3, 0 ≤ x ∧ x < 256 by decide) x hx
  · exact (show ∀ x ∈ zeros 8, 0 ≤ x ∧ x < 256 by decide) x hx
/-! ### Put -/
end Go.Proofs.Ytonkgfgciegknaa.P
