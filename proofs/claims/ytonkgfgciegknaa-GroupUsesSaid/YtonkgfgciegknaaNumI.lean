/-
Plain laws on numbers as bytes: what the printed functions of packages num and leveeref01 tell, as one function each.
Conditions: none.
-/
import Derived.Test.YtonkgfgciegknaaPx3
import Derived.Test.YtonkgfgciegknaaPx9
import Derived.Test.YtonkgfgciegknaaPx7
import Derived.Test.YtonkgfgciegknaaHand
import Derived.Test.YtonkgfgciegknaaCrc
namespace Go.Proofs.Ytonkgfgciegknaa.Num
open Go.RowKit Go.Proofs.YtonkgfgciegknaaW.PrintWords Go.Proofs.YtonkgfgciegknaaW.PrintLast Go.Proofs.YtonkgfgciegknaaW.PrintMore Go.Proofs.Ytonkgfgciegknaa.P
theorem w64 {x : Int} (h0 : -9223372036854775808 ≤ x) (h1 : x ≤ 9223372036854775807) : wrap64 x = x := by unfold wrap64; omega
theorem rd_eq (l : List Int) (i : Nat) (h : i < l.length) : rd l (i : Int) = l[i] := by simp [rd, h]
/-- The number that bytes are, the lowest first. -/
def getS : List Int → Int
  | [] => 0
  | b :: l => b + 256 * getS l
theorem getS_snoc (l : List Int) (b : Int) : getS (l ++ [b]) = getS l + b * 256 ^ l.length := by
  induction l with
  | nil => simp [getS]
  | cons c l ih =>
    simp only [List.cons_append, getS, ih, List.length_cons, Int.pow_succ]
    rw [Int.mul_add, ← Int.add_assoc, Int.mul_comm (256 ^ l.length) 256, Int.mul_left_comm]
def isBytes (l : List Int) : Prop := ∀ x ∈ l, 0 ≤ x ∧ x < 256
theorem getS_range (l : List Int) (h : isBytes l) : 0 ≤ getS l ∧ getS l < 256 ^ l.length := by
  induction l with
  | nil => simp [getS]
  | cons c l ih =>
    have h1 := h c (by simp)
    have h2 := ih (fun x hx => h x (by simp [hx]))
    simp only [getS, List.length_cons, Int.pow_succ]
    omega
theorem pow_256 (i : Nat) : (256 : Int) ^ i = 2 ^ (8 * i) := by rw [Int.pow_mul]; rfl
theorem u64_wrap {x : Int} (h0 : 0 ≤ x) (h1 : x < 18446744073709551616) : IntKind.u64.wrap x = x := by
  unfold IntKind.wrap
  simp [IntKind.bits, IntKind.signed]
  omega
theorem or_add (a b : Int) (s : Nat) (h0 : 0 ≤ a) (h1 : a < 2 ^ s) (hb : 0 ≤ b) (h2 : a + b * 2 ^ s < 18446744073709551616) : Go.bits .or .u64 a (b * 2 ^ s) = a + b * 2 ^ s := by
  obtain ⟨x, rfl⟩ := Int.eq_ofNat_of_zero_le h0
  obtain ⟨y, rfl⟩ := Int.eq_ofNat_of_zero_le hb
  have e2 : ((2 : Int) ^ s) = ((2 ^ s : Nat) : Int) := by simp
  rw [e2] at h1 h2 ⊢
  have h1' : x < 2 ^ s := by omega
  have h2' : x + y * 2 ^ s < 2 ^ 64 := by
    have : ((x + y * 2 ^ s : Nat) : Int) < 18446744073709551616 := by simpa using h2
    omega
  have e3 : ((y : Int) * ((2 ^ s : Nat) : Int)) = ((y * 2 ^ s : Nat) : Int) := by simp
  rw [e3]
  have hy : y * 2 ^ s < 2 ^ 64 := by omega
  have hx : x < 2 ^ 64 := by omega
  unfold Go.bits
  simp only [IntKind.bits]
  have hor : (BitVec.ofInt 64 (x : Int) ||| BitVec.ofInt 64 ((y * 2 ^ s : Nat) : Int)).toNat = x + y * 2 ^ s := by
    rw [BitVec.toNat_or, BitVec.toNat_ofInt, BitVec.toNat_ofInt]
    have t1 : ((x : Int) % ((2 ^ 64 : Nat) : Int)).toNat = x := by omega
    have t2 : (((y * 2 ^ s : Nat) : Int) % ((2 ^ 64 : Nat) : Int)).toNat = y * 2 ^ s := by omega
    rw [t1, t2]
    have := Nat.two_pow_add_eq_or_of_lt h1' y
    rw [Nat.mul_comm y, Nat.or_comm, ← this]
    omega
  refine (congrArg (fun z : Nat => IntKind.u64.wrap (z : Int)) hor).trans ?_
  rw [u64_wrap (by omega) (by omega)]
  simp
theorem or_byte (l : List Int) (b : Int) (hl : isBytes l) (h8 : l.length < 8) (hb : 0 ≤ b ∧ b < 256) :
    Go.bits .or .u64 (getS l) (shl .u64 (IntKind.u64.wrap b) (8 * (l.length : Int))) = getS (l ++ [b]) := by
  have hr := getS_range l hl
  have hx : b * 2 ^ (8 * l.length) ≤ 255 * 2 ^ (8 * l.length) := Int.mul_le_mul_of_nonneg_right (by omega) (Int.pow_nonneg (by decide))
  have hp : (2 : Int) ^ (8 * l.length) ≤ 2 ^ 56 := by
    have : (2 : Nat) ^ (8 * l.length) ≤ 2 ^ 56 := Nat.pow_le_pow_right (by decide) (by omega)
    have := Int.ofNat_le.2 this
    simpa using this
  have hb0 : 0 ≤ b * 2 ^ (8 * l.length) := Int.mul_nonneg hb.1 (Int.pow_nonneg (by decide))
  rw [pow_256] at hr
  have hs : shl .u64 (IntKind.u64.wrap b) (8 * (l.length : Int)) = b * 2 ^ (8 * l.length) := by
    unfold shl
    have : min (8 * (l.length : Int)).toNat IntKind.u64.bits = 8 * l.length := by
      simp only [IntKind.bits]
      omega
    rw [this, u64_wrap hb.1 (by omega), u64_wrap hb0 (by omega)]
  rw [hs, or_add _ _ _ hr.1 hr.2 hb.1 (by omega), getS_snoc, pow_256]
theorem take_snoc (l : List Int) (i : Nat) (h : i < l.length) : l.take (i + 1) = l.take i ++ [l[i]] := List.take_succ_eq_append_getElem h
theorem isBytes_take {l : List Int} (h : isBytes l) (i : Nat) : isBytes (l.take i) := fun x hx => h x (List.mem_of_mem_take hx)
theorem Get_loop (l : List Int) (hb : isBytes l) (m : Nat) (hm : m = min l.length 8) : ∀ (d i k : Nat), i + d = m → d < k →
    num_Get.l0 k l (getS (l.take i)) (m : Int) (i : Int) = some (getS (l.take m)) := by
  intro d
  induction d with
  | zero =>
    intro i k hi hk
    obtain ⟨k, rfl⟩ : ∃ m, k = m + 1 := ⟨k - 1, by omega⟩
    obtain rfl : i = m := by omega
    simp only [num_Get.l0]
    rw [if_neg (by omega)]
  | succ d ih =>
    intro i k hi hk
    obtain ⟨k, rfl⟩ : ∃ m, k = m + 1 := ⟨k - 1, by omega⟩
    have hil : i < l.length := by omega
    have hlt : (l.take i).length = i := by rw [List.length_take]; omega
    have hx := hb l[i] (List.getElem_mem hil)
    have ho := or_byte (l.take i) l[i] (isBytes_take hb i) (by omega) hx
    rw [hlt, ← take_snoc l i hil] at ho
    simp only [num_Get.l0]
    rw [if_pos (by omega), if_pos (by omega), if_pos (by omega), w64 (x := 8 * (i : Int)) (by omega) (by omega), if_pos (by omega), rd_eq l i hil, ho, w64 (by omega) (by omega)]
    exact ih (i + 1) k (by omega) (by omega)
theorem Get_eq (k : Nat) (l : List Int) (hb : isBytes l) (hk : 8 < k) : num_Get.f k l = some (getS (l.take 8)) := by
  have := Get_loop l hb (min l.length 8) rfl (min l.length 8) 0 k (by omega) (by omega)
  unfold num_Get.f
  have hm : mn (l.length : Int) 8 = ((min l.length 8 : Nat) : Int) := by unfold mn; split <;> omega
  rw [hm]
  have ht : l.take (min l.length 8) = l.take 8 := by
    rcases Nat.le_total l.length 8 with h | h
    · rw [Nat.min_eq_left h, List.take_of_length_le (Nat.le_refl _), List.take_of_length_le h]
    · rw [Nat.min_eq_right h]
  rw [ht] at this
  simpa [getS] using this
theorem refGet_loop (l : List Int) (hb : isBytes l) (m : Nat) (hm : m = min l.length 8) : ∀ (d i k : Nat), i + d = m → d < k →
    leveeref01_Get.l0 k l (getS (l.take i)) (i : Int) = some (getS (l.take m)) := by
  intro d
  induction d with
  | zero =>
    intro i k hi hk
    obtain ⟨k, rfl⟩ : ∃ m, k = m + 1 := ⟨k - 1, by omega⟩
    obtain rfl : i = m := by omega
    simp only [leveeref01_Get.l0]
    by_cases h : (i : Int) < (l.length : Int)
    · rw [if_pos h, if_neg (by omega)]
    · rw [if_neg h]
  | succ d ih =>
    intro i k hi hk
    obtain ⟨k, rfl⟩ : ∃ m, k = m + 1 := ⟨k - 1, by omega⟩
    have hil : i < l.length := by omega
    have hlt : (l.take i).length = i := by rw [List.length_take]; omega
    have hx := hb l[i] (List.getElem_mem hil)
    have ho := or_byte (l.take i) l[i] (isBytes_take hb i) (by omega) hx
    rw [hlt, ← take_snoc l i hil] at ho
    simp only [leveeref01_Get.l0]
    rw [if_pos (by omega), if_pos (by omega), if_pos (by omega), w64 (x := 8 * (i : Int)) (by omega) (by omega), u64_wrap (x := 8 * (i : Int)) (by omega) (by omega), if_pos (by omega), rd_eq l i hil, ho, w64 (by omega) (by omega)]
    exact ih (i + 1) k (by omega) (by omega)
theorem refGet_eq (k : Nat) (l : List Int) (hb : isBytes l) (hk : 8 < k) : leveeref01_Get.f k l = some (getS (l.take 8)) := by
  have := refGet_loop l hb (min l.length 8) rfl (min l.length 8) 0 k (by omega) (by omega)
  unfold leveeref01_Get.f
  have ht : l.take (min l.length 8) = l.take 8 := by
    rcases Nat.le_total l.length 8 with h | h
    · rw [Nat.min_eq_left h, List.take_of_length_le (Nat.le_refl _), List.take_of_length_le h]
    · rw [Nat.min_eq_right h]
  rw [ht] at this
  simpa [getS] using this
end Go.Proofs.Ytonkgfgciegknaa.Num
