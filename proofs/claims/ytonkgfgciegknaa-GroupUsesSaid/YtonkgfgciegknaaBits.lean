/-
Plain laws on maps of bits: what the printed functions of packages bits and leveeref05 tell, in terms of one bit and of rows of such.
Conditions: none.
-/
import Derived.Test.YtonkgfgciegknaaHand
import Derived.Test.YtonkgfgciegknaaPx3
import Derived.Test.YtonkgfgciegknaaPx11
import Derived.Test.YtonkgfgciegknaaPx4
import Derived.Test.YtonkgfgciegknaaPx9
import Derived.Test.YtonkgfgciegknaaPx6
namespace Go.Proofs.Ytonkgfgciegknaa.Bits
set_option linter.unusedVariables false
open Go.RowKit Go.Proofs.YtonkgfgciegknaaW.PrintWords Go.Proofs.YtonkgfgciegknaaW.PrintLast Go.Proofs.YtonkgfgciegknaaW.PrintMore Go.Proofs.Ytonkgfgciegknaa.P
theorem w64 {x : Int} (h0 : -9223372036854775808 ≤ x) (h1 : x ≤ 9223372036854775807) : wrap64 x = x := by unfold wrap64; omega
theorem rd_eq (l : List Int) (i : Nat) (h : i < l.length) : rd l (i : Int) = l[i] := by simp [rd, h]
def isBytes (l : List Int) : Prop := ∀ x ∈ l, 0 ≤ x ∧ x < 256
theorem get_byte : ∀ (x : Fin 256) (j : Fin 8), ((Go.bits .and .u8 (x.val : Int) (shl .u8 1 (j.val : Int))) != 0) = (x.val / 2 ^ j.val % 2 == 1) := by decide +kernel
theorem refGet_byte : ∀ (x : Fin 256) (j : Fin 8), ((Go.bits .and .u8 (shr .u8 (x.val : Int) (j.val : Int)) 1) == 1) = (x.val / 2 ^ j.val % 2 == 1) := by decide +kernel
theorem put_byte : ∀ (on : Bool) (x : Fin 256) (j : Fin 8), 0 ≤ bitPut (x.val : Int) (shl .u8 1 (j.val : Int)) on ∧ bitPut (x.val : Int) (shl .u8 1 (j.val : Int)) on < 256 ∧
    (∀ k : Fin 8, ((bitPut (x.val : Int) (shl .u8 1 (j.val : Int)) on).toNat / 2 ^ k.val % 2 == 1) = if k = j then on else (x.val / 2 ^ k.val % 2 == 1)) ∧
    (if ((x.val / 2 ^ j.val % 2 == 1) != on) = true then Go.bits .xor .u8 (x.val : Int) (shl .u8 1 (j.val : Int)) else (x.val : Int)) = bitPut (x.val : Int) (shl .u8 1 (j.val : Int)) on := by decide +kernel
/-- A bit of a map: none beyond it is set. -/
def bitS (l : List Int) (i : Nat) : Bool := decide (i < 8 * l.length) && ((rd l ((i / 8 : Nat) : Int)).toNat / 2 ^ (i % 8) % 2 == 1)
theorem byte_at {l : List Int} (hb : isBytes l) {i : Nat} (h : i < 8 * l.length) : ∃ x : Fin 256, rd l ((i / 8 : Nat) : Int) = (x.val : Int) := by
  have hi : i / 8 < l.length := by omega
  have hx := hb l[i / 8] (List.getElem_mem hi)
  refine ⟨⟨l[i / 8].toNat, by omega⟩, ?_⟩
  rw [rd_eq l _ hi]
  simp only
  omega
theorem div8 (i : Nat) (h : i ≤ 9000000000000000000) : wrap64 (Int.tdiv (i : Int) 8) = ((i / 8 : Nat) : Int) := by
  rw [Int.tdiv_eq_ediv_of_nonneg (by omega), w64 (by omega) (by omega)]
  omega
theorem mod8 (i : Nat) : Int.tmod (i : Int) 8 = ((i % 8 : Nat) : Int) := by
  rw [Int.tmod_eq_emod_of_nonneg (by omega)]
  omega
theorem u64_wrap {x : Int} (h0 : 0 ≤ x) (h1 : x < 18446744073709551616) : IntKind.u64.wrap x = x := by
  unfold IntKind.wrap
  simp [IntKind.bits, IntKind.signed]
  omega
/-- Any bit, of any place. -/
def bitZ (l : List Int) (i : Int) : Bool := decide (0 ≤ i) && bitS l i.toNat
theorem bitZ_nat (l : List Int) (i : Nat) : bitZ l (i : Int) = bitS l i := by simp [bitZ]
theorem bitS_beyond {l : List Int} {i : Nat} (h : 8 * l.length ≤ i) : bitS l i = false := by
  unfold bitS
  rw [decide_eq_false (by omega), Bool.false_and]
theorem Get_eq (l : List Int) (hb : isBytes l) (hl : l.length ≤ 140737488355328) (i : Int) (hi : i ≤ 9223372036854775807) : bits_Get.f l i = some (bitZ l i) := by
  unfold bits_Get.f bits_there.f
  by_cases h0 : i ≥ 0
  · obtain ⟨i, rfl⟩ := Int.eq_ofNat_of_zero_le h0
    rw [if_pos h0, Option.bind_some, w64 (x := 8 * (l.length : Int)) (by omega) (by omega), bitZ_nat]
    by_cases h1 : (i : Int) < 8 * (l.length : Int)
    · have hn : i < 8 * l.length := by omega
      rw [decide_eq_true h1, if_pos rfl, div8 i (by omega), mod8, if_pos (by omega), if_pos (by omega), if_pos (by omega)]
      obtain ⟨x, hx⟩ := byte_at hb hn
      have := get_byte x ⟨i % 8, by omega⟩
      simp only at this
      rw [hx, this]
      unfold bitS
      rw [decide_eq_true hn, hx]
      simp
    · rw [decide_eq_false h1, if_neg (by decide), bitS_beyond (by omega)]
  · rw [if_neg h0, Option.bind_some, if_neg (by decide)]
    unfold bitZ
    rw [decide_eq_false (by omega), Bool.false_and]
theorem refGet_eq (l : List Int) (hb : isBytes l) (hl : l.length ≤ 140737488355328) (i : Int) (hi : i ≤ 9223372036854775807) : leveeref05_Get.f l i = some (bitZ l i) := by
  unfold leveeref05_Get.f
  by_cases h0 : i ≥ 0
  · obtain ⟨i, rfl⟩ := Int.eq_ofNat_of_zero_le h0
    rw [if_pos h0, bitZ_nat]
    have hd : wrap64 (Int.tdiv (i : Int) 8) = ((i / 8 : Nat) : Int) := by
      rw [Int.tdiv_eq_ediv_of_nonneg (by omega), w64 (by omega) (by omega)]
      omega
    rw [hd, mod8, u64_wrap (by omega) (by omega)]
    by_cases h1 : ((i / 8 : Nat) : Int) < (l.length : Int)
    · have hn : i < 8 * l.length := by omega
      rw [if_pos h1, if_pos (by omega), if_pos (by omega)]
      obtain ⟨x, hx⟩ := byte_at hb hn
      have := refGet_byte x ⟨i % 8, by omega⟩
      simp only at this
      rw [hx, this]
      unfold bitS
      rw [decide_eq_true hn, hx]
      simp
    · rw [if_neg h1, bitS_beyond (by omega)]
  · rw [if_neg h0]
    unfold bitZ
    rw [decide_eq_false (by omega), Bool.false_and]
/-- How many there are of the first n. -/
def mostS (l : List Int) (n : Int) : Nat := min n.toNat (8 * l.length)
theorem most_eq (l : List Int) (hl : l.length ≤ 140737488355328) (n : Int) : bits_most.f l n = some (mostS l n : Int) := by
  unfold bits_most.f mostS
  rw [w64 (x := 8 * (l.length : Int)) (by omega) (by omega)]
  congr 1
  unfold mn mx
  split <;> split <;> omega
/-- A row of w places from s on, none of them set, within the first M. -/
def Row (g : Nat → Bool) (w s M : Nat) : Prop := s + w ≤ M ∧ ∀ j, j < w → g (s + j) = false
theorem Row.short {g : Nat → Bool} {w w' s M : Nat} (h : Row g w s M) (hw : w' ≤ w) : Row g w' s M := ⟨by have := h.1; omega, fun j hj => h.2 j (by omega)⟩
theorem Row.more {g : Nat → Bool} {w s M M' : Nat} (h : Row g w s M) (hM : M ≤ M') : Row g w s M' := ⟨by have := h.1; omega, h.2⟩
theorem Row.less {g : Nat → Bool} {w s M M' : Nat} (h : Row g w s M) (hM : s + w ≤ M') : Row g w s M' := ⟨hM, h.2⟩
theorem Row.at {g : Nat → Bool} {w s M : Nat} (h : Row g w s M) {i : Nat} (h0 : s ≤ i) (h1 : i < s + w) : g i = false := by
  have := h.2 (i - s) (by omega)
  rwa [show s + (i - s) = i by omega] at this
/-- The longest row: its first place, and how long. -/
def Long (g : Nat → Bool) (a b M : Nat) : Prop := Row g b a M ∧ (∀ s, ¬ Row g (b + 1) s M) ∧ ∀ s, s < a → ¬ Row g b s M
theorem Long.one {g : Nat → Bool} {a b a' b' M : Nat} (h : Long g a b M) (h' : Long g a' b' M) : a = a' ∧ b = b' := by
  have hb : b = b' := by
    rcases Nat.lt_trichotomy b b' with h1 | h1 | h1
    · exact absurd (h'.1.short (show b + 1 ≤ b' by omega)) (h.2.1 a')
    · exact h1
    · exact absurd (h.1.short (show b' + 1 ≤ b by omega)) (h'.2.1 a)
  subst hb
  refine ⟨?_, rfl⟩
  rcases Nat.lt_trichotomy a a' with h1 | h1 | h1
  · exact absurd h.1 (h'.2.2 a h1)
  · exact h1
  · exact absurd h'.1 (h.2.2 a' h1)
/-- The row that ends at a place: r long, and no longer. -/
def Tail (g : Nat → Bool) (r i : Nat) : Prop := r ≤ i ∧ (∀ j, i - r ≤ j → j < i → g j = false) ∧ (r = i ∨ g (i - r - 1) = true)
theorem Tail.zero (g : Nat → Bool) : Tail g 0 0 := ⟨by omega, fun j h0 h1 => by omega, .inl rfl⟩
theorem Tail.set {g : Nat → Bool} {i : Nat} (h : g i = true) : Tail g 0 (i + 1) := ⟨by omega, fun j h0 h1 => by omega, .inr (by simpa using h)⟩
theorem Tail.not {g : Nat → Bool} {r i : Nat} (ht : Tail g r i) (h : g i = false) : Tail g (r + 1) (i + 1) := by
  refine ⟨by have := ht.1; omega, fun j h0 h1 => ?_, ?_⟩
  · by_cases hj : j = i
    · rw [hj]; exact h
    · exact ht.2.1 j (by omega) (by omega)
  · rcases ht.2.2 with h2 | h2
    · exact .inl (by omega)
    · refine .inr ?_
      rw [show i + 1 - (r + 1) - 1 = i - r - 1 by omega]
      exact h2
theorem Tail.max {g : Nat → Bool} {r i w s : Nat} (ht : Tail g r i) (h : Row g w s i) (he : s + w = i) : w ≤ r := by
  rcases ht.2.2 with h2 | h2
  · omega
  · refine Decidable.byContradiction fun hc => ?_
    have := h.at (i := i - r - 1) (by omega) (by omega)
    rw [h2] at this
    cases this
theorem Tail.row {g : Nat → Bool} {r i : Nat} (ht : Tail g r i) : Row g r (i - r) i := ⟨by have := ht.1; omega, fun j hj => ht.2.1 _ (by omega) (by have := ht.1; omega)⟩
theorem Long.zero (g : Nat → Bool) : Long g 0 0 0 := ⟨⟨by omega, fun j hj => by omega⟩, fun s h => by have := h.1; omega, fun s hs => by omega⟩
theorem Long.set {g : Nat → Bool} {a b i : Nat} (hl : Long g a b i) (h : g i = true) : Long g a b (i + 1) := by
  refine ⟨hl.1.more (by omega), fun s hs => ?_, fun s hs hr => hl.2.2 s hs (hr.less (by have := hl.1.1; omega))⟩
  by_cases he : s + (b + 1) ≤ i
  · exact hl.2.1 s (hs.less he)
  · have := hs.at (i := i) (by have := hs.1; omega) (by have := hs.1; omega)
    rw [h] at this
    cases this
theorem Long.keep {g : Nat → Bool} {a b r i : Nat} (hl : Long g a b i) (ht : Tail g r i) (h : g i = false) (hr : r + 1 ≤ b) : Long g a b (i + 1) := by
  refine ⟨hl.1.more (by omega), fun s hs => ?_, fun s hs hr => hl.2.2 s hs (hr.less (by have := hl.1.1; omega))⟩
  by_cases he : s + (b + 1) ≤ i
  · exact hl.2.1 s (hs.less he)
  · have := (ht.not h).max hs (by have := hs.1; omega)
    omega
theorem Long.new {g : Nat → Bool} {a b i : Nat} (hl : Long g a b i) (ht : Tail g b i) (h : g i = false) : Long g (i - b) (b + 1) (i + 1) := by
  have ht' := ht.not h
  have hr := ht'.row
  rw [show i + 1 - (b + 1) = i - b by omega] at hr
  refine ⟨hr, fun s hs => ?_, fun s hs hr2 => hl.2.1 s (hr2.less (by omega))⟩
  by_cases he : s + (b + 1) ≤ i
  · exact hl.2.1 s ((hs.short (show b + 1 ≤ b + 1 + 1 by omega)).less he)
  · have := ht'.max hs (by have := hs.1; omega)
    omega
/-- The first place from which so many are not set. -/
def Run (g : Nat → Bool) (w M : Nat) (r : Int) : Prop := (∃ s : Nat, r = s ∧ Row g w s M ∧ ∀ s', s' < s → ¬ Row g w s' M) ∨ (r = -1 ∧ ∀ s, ¬ Row g w s M)
theorem Run.one {g : Nat → Bool} {w M : Nat} {r r' : Int} (h : Run g w M r) (h' : Run g w M r') : r = r' := by
  rcases h with ⟨s, rfl, h1, h2⟩ | ⟨rfl, h1⟩ <;> rcases h' with ⟨s', rfl, h1', h2'⟩ | ⟨rfl, h1'⟩
  · rcases Nat.lt_trichotomy s s' with h3 | h3 | h3
    · exact absurd h1 (h2' s h3)
    · rw [h3]
    · exact absurd h1' (h2 s' h3)
  · exact absurd h1 (h1' s)
  · exact absurd h1' (h1 s')
  · rfl
/-- How many are set. -/
def cnt (g : Nat → Bool) : Nat → Nat
  | 0 => 0
  | i + 1 => cnt g i + (if g i = true then 1 else 0)
theorem cnt_le (g : Nat → Bool) : ∀ i, cnt g i ≤ i
  | 0 => by simp [cnt]
  | i + 1 => by
    have := cnt_le g i
    simp only [cnt]
    split <;> omega
theorem cnt_all (g : Nat → Bool) : ∀ m, cnt g m = m → ∀ i, i < m → g i = true
  | 0, _, i, hi => by omega
  | m + 1, h, i, hi => by
    have h1 := cnt_le g m
    simp only [cnt] at h
    by_cases hg : g m = true
    · rw [if_pos hg] at h
      by_cases he : i = m
      · rw [he]; exact hg
      · exact cnt_all g m (by omega) i (by omega)
    · rw [if_neg hg] at h; omega
theorem Count_loop (l : List Int) (hb : isBytes l) (hl : l.length ≤ 140737488355328) (m : Nat) (hm : m ≤ 8 * l.length) : ∀ (d i k : Nat), i + d = m → d < k →
    bits_Count.l0 k l (cnt (bitS l) i : Int) (m : Int) (i : Int) = some (cnt (bitS l) m : Int) := by
  intro d
  induction d with
  | zero =>
    intro i k hi hk
    obtain ⟨k, rfl⟩ : ∃ m, k = m + 1 := ⟨k - 1, by omega⟩
    obtain rfl : i = m := by omega
    simp only [bits_Count.l0]
    rw [if_neg (by omega)]
  | succ d ih =>
    intro i k hi hk
    obtain ⟨k, rfl⟩ : ∃ m, k = m + 1 := ⟨k - 1, by omega⟩
    have hc := cnt_le (bitS l) i
    have hn := ih (i + 1) k (by omega) (by omega)
    simp only [cnt] at hn
    simp only [bits_Count.l0]
    rw [if_pos (by omega), Get_eq l hb hl _ (by omega), Option.bind_some, bitZ_nat, w64 (x := (i : Int) + 1) (by omega) (by omega), w64 (x := (cnt (bitS l) i : Int) + 1) (by omega) (by omega)]
    cases h : bitS l i
    · rw [h, if_neg (by decide)] at hn
      rw [if_neg (by decide)]
      exact hn
    · rw [h, if_pos rfl] at hn
      rw [if_pos rfl]
      exact hn
theorem Count_eq (l : List Int) (hb : isBytes l) (hl : l.length ≤ 140737488355328) (n : Int) (k : Nat) (hk : 8 * l.length < k) : bits_Count.f k l n = some (cnt (bitS l) (mostS l n) : Int) := by
  unfold bits_Count.f
  rw [most_eq l hl, Option.bind_some]
  have hm : mostS l n ≤ 8 * l.length := by unfold mostS; omega
  exact Count_loop l hb hl (mostS l n) hm (mostS l n) 0 k (by omega) (by omega)
/-- The first that is not set, of d from i on. -/
def nx (g : Nat → Bool) : Nat → Nat → Option Nat
  | _, 0 => none
  | i, d + 1 => if g i = true then nx g (i + 1) d else some i
def orElse (o : Option Nat) (z : Int) : Int := match o with | some j => (j : Int) | none => z
theorem nx_some (g : Nat → Bool) : ∀ d i j, nx g i d = some j → i ≤ j ∧ j < i + d ∧ g j = false
  | 0, i, j, h => by simp [nx] at h
  | d + 1, i, j, h => by
    simp only [nx] at h
    by_cases hg : g i = true
    · rw [if_pos hg] at h
      have := nx_some g d (i + 1) j h
      exact ⟨by omega, by omega, this.2.2⟩
    · rw [if_neg hg] at h
      obtain rfl := Option.some.inj h
      exact ⟨by omega, by omega, by simpa using hg⟩
theorem nx_none (g : Nat → Bool) : ∀ d i, nx g i d = none → ∀ j, i ≤ j → j < i + d → g j = true
  | 0, i, h, j, h0, h1 => by omega
  | d + 1, i, h, j, h0, h1 => by
    simp only [nx] at h
    by_cases hg : g i = true
    · rw [if_pos hg] at h
      by_cases he : j = i
      · rw [he]; exact hg
      · exact nx_none g d (i + 1) h j (by omega) (by omega)
    · rw [if_neg hg] at h; cases h
/-- The first, from a place on, and from the beginning behind the end. -/
def firstS (g : Nat → Bool) (m f : Nat) : Int := orElse (nx g f (m - f)) (orElse (nx g 0 (min m f)) (-1))
/-- Behind the place. -/
theorem First_late (l : List Int) (hb : isBytes l) (hl : l.length ≤ 140737488355328) (m : Nat) (hm : m ≤ 8 * l.length) (f : Nat) (z : Int) : ∀ (d i k : Nat), i + d = m → d < k → f ≤ i → (z < 0 ∨ 0 ≤ z) →
    bits_First.l0 k l (f : Int) z (m : Int) (i : Int) = some (orElse (nx (bitS l) i d) z) := by
  intro d
  induction d with
  | zero =>
    intro i k hi hk hf hz
    obtain ⟨k, rfl⟩ : ∃ m, k = m + 1 := ⟨k - 1, by omega⟩
    simp only [bits_First.l0]
    rw [if_neg (by omega)]
    rfl
  | succ d ih =>
    intro i k hi hk hf hz
    obtain ⟨k, rfl⟩ : ∃ m, k = m + 1 := ⟨k - 1, by omega⟩
    simp only [bits_First.l0, nx]
    rw [if_pos (by omega), Get_eq l hb hl _ (by omega), Option.bind_some, bitZ_nat, w64 (x := (i : Int) + 1) (by omega) (by omega)]
    cases h : bitS l i
    · rw [if_neg (by decide), if_pos (by omega), if_neg (by decide)]
      rfl
    · rw [if_pos rfl, if_pos rfl]
      exact ih (i + 1) k (by omega) (by omega) (by omega) hz
/-- Ahead of it, when one has been seen. -/
theorem First_seen (l : List Int) (hb : isBytes l) (hl : l.length ≤ 140737488355328) (m : Nat) (hm : m ≤ 8 * l.length) (f : Nat) (z : Nat) : ∀ (d i k : Nat), i + d = m → d < k → i ≤ f →
    bits_First.l0 k l (f : Int) (z : Int) (m : Int) (i : Int) = some (orElse (nx (bitS l) f (m - f)) z) := by
  intro d
  induction d with
  | zero =>
    intro i k hi hk hf
    obtain ⟨k, rfl⟩ : ∃ m, k = m + 1 := ⟨k - 1, by omega⟩
    simp only [bits_First.l0]
    rw [if_neg (by omega), show m - f = 0 by omega]
    rfl
  | succ d ih =>
    intro i k hi hk hf
    by_cases he : i = f
    · subst he
      rw [First_late l hb hl m hm i z (d + 1) i k hi hk (by omega) (.inr (by omega)), show m - i = d + 1 by omega]
    obtain ⟨k, rfl⟩ : ∃ m, k = m + 1 := ⟨k - 1, by omega⟩
    simp only [bits_First.l0]
    rw [if_pos (by omega), Get_eq l hb hl _ (by omega), Option.bind_some, bitZ_nat, w64 (x := (i : Int) + 1) (by omega) (by omega)]
    have hn := ih (i + 1) k (by omega) (by omega) (by omega)
    cases h : bitS l i
    · rw [if_neg (by decide), if_neg (by omega), if_neg (by omega)]
      exact hn
    · rw [if_pos rfl]
      exact hn
theorem First_early (l : List Int) (hb : isBytes l) (hl : l.length ≤ 140737488355328) (m : Nat) (hm : m ≤ 8 * l.length) (f : Nat) : ∀ (d i k : Nat), i + d = m → d < k → i ≤ f →
    bits_First.l0 k l (f : Int) (-1) (m : Int) (i : Int) = some (orElse (nx (bitS l) f (m - f)) (orElse (nx (bitS l) i (min m f - i)) (-1))) := by
  intro d
  induction d with
  | zero =>
    intro i k hi hk hf
    obtain ⟨k, rfl⟩ : ∃ m, k = m + 1 := ⟨k - 1, by omega⟩
    simp only [bits_First.l0]
    rw [if_neg (by omega), show m - f = 0 by omega, show min m f - i = 0 by omega]
    rfl
  | succ d ih =>
    intro i k hi hk hf
    by_cases he : i = f
    · subst he
      rw [First_late l hb hl m hm i (-1) (d + 1) i k hi hk (by omega) (.inl (by omega)), show m - i = d + 1 by omega, show min m i - i = 0 by omega]
      rfl
    obtain ⟨k, rfl⟩ : ∃ m, k = m + 1 := ⟨k - 1, by omega⟩
    obtain ⟨c, hc⟩ : ∃ c, min m f - i = c + 1 := ⟨min m f - i - 1, by omega⟩
    simp only [bits_First.l0]
    rw [if_pos (by omega), Get_eq l hb hl _ (by omega), Option.bind_some, bitZ_nat, w64 (x := (i : Int) + 1) (by omega) (by omega), hc]
    simp only [nx]
    cases h : bitS l i
    · rw [if_neg (by decide), if_neg (by omega), if_pos (by omega), if_neg (by decide)]
      exact First_seen l hb hl m hm f i d (i + 1) k (by omega) (by omega) (by omega)
    · rw [if_pos rfl, if_pos rfl, show c = min m f - (i + 1) by omega]
      exact ih (i + 1) k (by omega) (by omega) (by omega)
/-- From where. -/
def fromS (n f : Int) : Nat := if f < 0 ∨ f > n then 0 else f.toNat
theorem First_eq (l : List Int) (hb : isBytes l) (hl : l.length ≤ 140737488355328) (n f : Int) (k : Nat) (hk : 8 * l.length + 2 < k) : bits_First.f k l n f = some (firstS (bitS l) (mostS l n) (fromS n f)) := by
  obtain ⟨k, rfl⟩ : ∃ m, k = m + 2 := ⟨k - 2, by omega⟩
  have hm : mostS l n ≤ 8 * l.length := by unfold mostS; omega
  have h := fun f => First_early l hb hl (mostS l n) hm f (mostS l n) 0 k (by omega) (by omega) (by omega)
  simp only [Nat.sub_zero] at h
  unfold bits_First.f fromS firstS
  by_cases h0 : f < 0
  · rw [if_pos h0, if_pos (.inl h0)]
    simp only [bits_First.j0, bits_First.j1]
    rw [if_pos trivial, most_eq l hl, Option.bind_some]
    exact h 0
  · rw [if_neg h0]
    by_cases h1 : f > n
    · rw [if_pos (.inr h1), decide_eq_true h1]
      simp only [bits_First.j0, bits_First.j1]
      rw [if_pos trivial, most_eq l hl, Option.bind_some]
      exact h 0
    · rw [if_neg (by omega), decide_eq_false h1]
      simp only [bits_First.j0, bits_First.j1]
      rw [if_neg (by decide), most_eq l hl, Option.bind_some]
      have := h f.toNat
      rw [show ((f.toNat : Nat) : Int) = f by omega] at this
      exact this
/-- A map with a bit set, or not. -/
def setS (l : List Int) (i : Nat) (on : Bool) : List Int := l.set (i / 8) (bitPut (rd l ((i / 8 : Nat) : Int)) (shl .u8 1 ((i % 8 : Nat) : Int)) on)
theorem setS_length (l : List Int) (i : Nat) (on : Bool) : (setS l i on).length = l.length := by unfold setS; rw [List.length_set]
theorem Set_eq (l : List Int) (hl : l.length ≤ 140737488355328) (i : Nat) (on : Bool) (hi : i < 8 * l.length) : bits_Set.f l (i : Int) on = some (setS l i on, 0) := by
  unfold bits_Set.f setS
  rw [if_pos hl, if_pos (by omega), mod8, show Int.tdiv (i : Int) 8 = ((i / 8 : Nat) : Int) by rw [Int.tdiv_eq_ediv_of_nonneg (by omega)]; omega, Int.toNat_natCast]
theorem setS_bytes (l : List Int) (hb : isBytes l) (i : Nat) (on : Bool) (hi : i < 8 * l.length) : isBytes (setS l i on) := by
  intro x hx
  obtain ⟨y, hy⟩ := byte_at hb hi
  have h := put_byte on y ⟨i % 8, by omega⟩
  simp only at h
  rcases List.mem_or_eq_of_mem_set hx with h1 | h1
  · exact hb x h1
  · rw [h1, hy]
    exact ⟨h.1, h.2.1⟩
theorem setS_rd (l : List Int) (i j : Nat) (on : Bool) (hi : i < 8 * l.length) (hj : j < 8 * l.length) : rd (setS l i on) ((j / 8 : Nat) : Int) = if j / 8 = i / 8 then bitPut (rd l ((i / 8 : Nat) : Int)) (shl .u8 1 ((i % 8 : Nat) : Int)) on else rd l ((j / 8 : Nat) : Int) := by
  have h1 : j / 8 < l.length := by omega
  rw [rd_eq _ _ (by rw [setS_length]; exact h1), rd_eq l _ h1]
  unfold setS
  rw [List.getElem_set]
  by_cases h : i / 8 = j / 8
  · rw [if_pos h, if_pos h.symm]
  · rw [if_neg h, if_neg (fun e => h e.symm)]
theorem setS_bit (l : List Int) (hb : isBytes l) (i j : Nat) (on : Bool) (hi : i < 8 * l.length) : bitS (setS l i on) j = if j = i then on else bitS l j := by
  by_cases hj : j < 8 * l.length
  · unfold bitS
    rw [setS_length, setS_rd l i j on hi hj, decide_eq_true hj, Bool.true_and, Bool.true_and]
    obtain ⟨y, hy⟩ := byte_at hb hi
    have h := (put_byte on y ⟨i % 8, by omega⟩).2.2.1 ⟨j % 8, by omega⟩
    simp only at h
    by_cases he : j / 8 = i / 8
    · rw [if_pos he, hy, h, he, hy]
      by_cases hm : j % 8 = i % 8
      · rw [if_pos (by simpa using hm), if_pos (by omega)]
      · rw [if_neg (by simpa using hm), if_neg (by omega)]
        simp
    · rw [if_neg he, if_neg (by omega)]
  · rw [bitS_beyond (by rw [setS_length]; omega), bitS_beyond (by omega), if_neg (by omega)]
end Go.Proofs.Ytonkgfgciegknaa.Bits
