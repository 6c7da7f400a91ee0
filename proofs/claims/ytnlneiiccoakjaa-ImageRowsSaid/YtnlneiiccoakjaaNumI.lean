/-
Plain laws on numbers as bytes: what the printed functions of packages num and leveeref01 tell, as one function each.
Conditions: none.
-/
import Derived.Test.YtnlneiiccoakjaaPx2
import Derived.Test.YtnlneiiccoakjaaPx4
import Derived.Test.YtnlneiiccoakjaaPx3
import Derived.Test.YtnlneiiccoakjaaHand
import Derived.Test.YtnlneiiccoakjaaCrc
namespace Go.Proofs.Ytnlneiiccoakjaa.Num
open Go.RowKit Go.Proofs.YtnlneiiccoakjaaW.PrintWords Go.Proofs.YtnlneiiccoakjaaW.PrintLast Go.Proofs.YtnlneiiccoakjaaW.PrintMore Go.Proofs.Ytnlneiiccoakjaa.P
theorem w64 {x : Int} (h0 : -9223372036854775808 ≤ x) (h1 : x ≤ 9223372036854775807) : wrap64 x = x := by unfold wrap64; omega
theorem rd_eq (l : List Int) (i : Nat) (h : i < l.length) : rd l (i : Int) = l[i] := by simp [rd, h]
/-- The number that bytes are, the lowest first. -/
def getS : List Int → Int
  | [] => 0
  | b :: l => b + 256 * getS l
theorem getS_snoc (l : List Int) (b : Int) : getS (l ++ [b]) = getS l + b * 256 ^ l.length := by
  induction l with
  | nil => simp [getS]
  | cons c l ih =>
    simp only [List.cons_append, getS, ih, List.length_cons, Int.pow_succ]
    rw [Int.mul_add, ← Int.add_assoc, Int.mul_comm (256 ^ l.length) 256, Int.mul_left_comm]
def isBytes (l : List Int) : Prop := ∀ x ∈ l, 0 ≤ x ∧ x < 256
theorem getS_range (l : List Int) (h : isBytes l) : 0 ≤ getS l ∧ getS l < 256 ^ l.length := by
  induction l with
  | nil => simp [getS]
  | cons c l ih =>
    have h1 := h c (by simp)
    have h2 := ih (fun x hx => h x (by simp [hx]))
    simp only [getS, List.length_cons, Int.pow_succ]
    omega
theorem pow_256 (i : Nat) : (256 : Int) ^ i = 2 ^ (8 * i) := by rw [Int.pow_mul]; rfl
theorem u64_wrap {x : Int} (h0 : 0 ≤ x) (h1 : x < 18446744073709551616) : IntKind.u64.wrap x = x := by
  unfold IntKind.wrap
  simp [IntKind.bits, IntKind.signed]
  omega
theorem or_add (a b : Int) (s : Nat) (h0 : 0 ≤ a) (h1 : a < 2 ^ s) (hb : 0 ≤ b) (h2 : a + b * 2 ^ s < 18446744073709551616) : Go.bits .or .u64 a (b * 2 ^ s) = a + b * 2 ^ s := by
  obtain ⟨x, rfl⟩ := Int.eq_ofNat_of_zero_le h0
  obtain ⟨y, rfl⟩ := Int.eq_ofNat_of_zero_le hb
  have e2 : ((2 : Int) ^ s) = ((2 ^ s : Nat) : Int) := by simp
  rw [e2] at h1 h2 ⊢
  have h1' : x < 2 ^ s := by omega
  have h2' : x + y * 2 ^ s < 2 ^ 64 := by
    have : ((x + y * 2 ^ s : Nat) : Int) < 18446744073709551616 := by simpa using h2
    omega
  have e3 : ((y : Int) * ((2 ^ s : Nat) : Int)) = ((y * 2 ^ s : Nat) : Int) := by simp
  rw [e3]
  have hy : y * 2 ^ s < 2 ^ 64 := by omega
  have hx : x < 2 ^ 64 := by omega
  unfold Go.bits
  simp only [IntKind.bits]
  have hor : (BitVec.ofInt 64 (x : Int) ||| BitVec.ofInt 64 ((y * 2 ^ s : Nat) : Int)).toNat = x + y * 2 ^ s := by
    rw [BitVec.toNat_or, BitVec.toNat_ofInt, BitVec.toNat_ofInt]
    have t1 : ((x : Int) % ((2 ^ 64 : Nat) : Int)).toNat = x := by omega
    have t2 : (((y * 2 ^ s : Nat) : Int) % ((2 ^ 64 : Nat) : Int)).toNat = y * 2 ^ s := by omega
    rw [t1, t2]
    have := Nat.two_pow_add_eq_or_of_lt h1' y
    rw [Nat.mul_comm y, Nat.or_comm, ← this]
    omega
  refine (congrArg (fun z : Nat => IntKind.u64.wrap (z : Int)) hor).trans ?_
  rw [u64_wrap (by omega) (by omega)]
  simp
theorem or_byte (l : List Int) (b : Int) (hl : isBytes l) (h8 : l.length < 8) (hb : 0 ≤ b ∧ b < 256) :
    Go.bits .or .u64 (getS l) (shl .u64 (IntKind.u64.wrap b) (8 * (l.length : Int))) = getS (l ++ [b]) := by
  have hr := getS_range l hl
  have hx : b * 2 ^ (8 * l.length) ≤ 255 * 2 ^ (8 * l.length) := Int.mul_le_mul_of_nonneg_right (by omega) (Int.pow_nonneg (by decide))
  have hp : (2 : Int) ^ (8 * l.length) ≤ 2 ^ 56 := by
    have : (2 : Nat) ^ (8 * l.length) ≤ 2 ^ 56 := Nat.pow_le_pow_right (by decide) (by omega)
    have := Int.ofNat_le.2 this
    simpa using this
  have hb0 : 0 ≤ b * 2 ^ (8 * l.length) := Int.mul_nonneg hb.1 (Int.pow_nonneg (by decide))
  rw [pow_256] at hr
  have hs : shl .u64 (IntKind.u64.wrap b) (8 * (l.length : Int)) = b * 2 ^ (8 * l.length) := by
    unfold shl
    have : min (8 * (l.length : Int)).toNat IntKind.u64.bits = 8 * l.length := by
      simp only [IntKind.bits]
      omega
    rw [this, u64_wrap hb.1 (by omega), u64_wrap hb0 (by omega)]
  rw [hs, or_add _ _ _ hr.1 hr.2 hb.1 (by omega), getS_snoc, pow_256]
theorem take_snoc (l : List Int) (i : Nat) (h : i < l.length) : l.take (i + 1) = l.take i ++ [l[i]] := List.take_succ_eq_append_getElem h
theorem isBytes_take {l : List Int} (h : isBytes l) (i : Nat) : isBytes (l.take i) := fun x hx => h x (List.mem_of_mem_take hx)
theorem Get_loop (l : List Int) (hb : isBytes l) (m : Nat) (hm : m = min l.length 8) : ∀ (d i k : Nat), i + d = m → d < k →
    num_Get.l0 k l (getS (l.take i)) (m : Int) (i : Int) = some (getS (l.take m)) := by
  intro d
  induction d with
  | zero =>
    intro i k hi hk
    obtain ⟨k, rfl⟩ : ∃ m, k = m + 1 := ⟨k - 1, by omega⟩
    obtain rfl : i = m := by omega
    simp only [num_Get.l0]
    rw [if_neg (by omega)]
  | succ d ih =>
    intro i k hi hk
    obtain ⟨k, rfl⟩ : ∃ m, k = m + 1 := ⟨k - 1, by omega⟩
    have hil : i < l.length := by omega
    have hlt : (l.take i).length = i := by rw [List.length_take]; omega
    have hx := hb l[i] (List.getElem_mem hil)
    have ho := or_byte (l.take i) l[i] (isBytes_take hb i) (by omega) hx
    rw [hlt, ← take_snoc l i hil] at ho
    simp only [num_Get.l0]
    rw [if_pos (by omega), if_pos (by omega), if_pos (by omega), w64 (x := 8 * (i : Int)) (by omega) (by omega), if_pos (by omega), rd_eq l i hil, ho, w64 (by omega) (by omega)]
    exact ih (i + 1) k (by omega) (by omega)
theorem Get_eq (k : Nat) (l : List Int) (hb : isBytes l) (hk : 8 < k) : num_Get.f k l = some (getS (l.take 8)) := by
  have := Get_loop l hb (min l.length 8) rfl (min l.length 8) 0 k (by omega) (by omega)
  unfold num_Get.f
  have hm : mn (l.length : Int) 8 = ((min l.length 8 : Nat) : Int) := by unfold mn; split <;> omega
  rw [hm]
  have ht : l.take (min l.length 8) = l.take 8 := by
    rcases Nat.le_total l.length 8 with h | h
    · rw [Nat.min_eq_left h, List.take_of_length_le (Nat.le_refl _), List.take_of_length_le h]
    · rw [Nat.min_eq_right h]
  rw [ht] at this
  simpa [getS] using this
theorem Sum_eq (l : List Int) (hl : l.length ≤ 140737488355328) : num_Sum.f l = some (Crc.sum l) := by
  unfold num_Sum.f
  rw [if_pos hl]
/-- Are all 0? -/
def zeroS (l : List Int) : Bool := l.all (· == 0)
theorem u8_wrap {x : Int} (h0 : 0 ≤ x) (h1 : x < 256) : IntKind.u8.wrap x = x := by
  unfold IntKind.wrap
  simp [IntKind.bits, IntKind.signed]
  omega
theorem or_u8 (a b : Int) (ha : 0 ≤ a ∧ a < 256) (hb : 0 ≤ b ∧ b < 256) : 0 ≤ Go.bits .or .u8 a b ∧ Go.bits .or .u8 a b < 256 ∧ (Go.bits .or .u8 a b = 0 ↔ a = 0 ∧ b = 0) := by
  obtain ⟨x, rfl⟩ := Int.eq_ofNat_of_zero_le ha.1
  obtain ⟨y, rfl⟩ := Int.eq_ofNat_of_zero_le hb.1
  have hx : x < 2 ^ 8 := by omega
  have hy : y < 2 ^ 8 := by omega
  have hor : (BitVec.ofInt 8 (x : Int) ||| BitVec.ofInt 8 (y : Int)).toNat = x ||| y := by
    rw [BitVec.toNat_or, BitVec.toNat_ofInt, BitVec.toNat_ofInt]
    have t1 : ((x : Int) % ((2 ^ 8 : Nat) : Int)).toNat = x := by omega
    have t2 : ((y : Int) % ((2 ^ 8 : Nat) : Int)).toNat = y := by omega
    rw [t1, t2]
  have hlt : x ||| y < 2 ^ 8 := Nat.or_lt_two_pow hx hy
  have e : Go.bits .or .u8 (x : Int) (y : Int) = ((x ||| y : Nat) : Int) := by
    unfold Go.bits
    simp only [IntKind.bits]
    refine (congrArg (fun z : Nat => IntKind.u8.wrap (z : Int)) hor).trans ?_
    rw [u8_wrap (by omega) (by omega)]
  rw [e]
  refine ⟨by omega, by omega, ?_⟩
  constructor
  · intro h
    have h0 : x ||| y = 0 := by omega
    have := Nat.or_eq_zero_iff.1 h0
    omega
  · rintro ⟨h1, h2⟩
    have hx0 : x = 0 := by omega
    have hy0 : y = 0 := by omega
    subst hx0 hy0
    rfl
theorem Zero_loop (l : List Int) (hb : isBytes l) (hl : l.length ≤ 140737488355328) : ∀ (d i k : Nat) (a : Int), i + d = l.length → d < k → 0 ≤ a ∧ a < 256 →
    num_Zero.l0 k a l (l.length : Int) (i : Int) = some (a == 0 && zeroS (l.drop i)) := by
  intro d
  induction d with
  | zero =>
    intro i k a hi hk ha
    obtain ⟨k, rfl⟩ : ∃ m, k = m + 1 := ⟨k - 1, by omega⟩
    obtain rfl : i = l.length := by omega
    simp only [num_Zero.l0]
    rw [if_neg (by omega), List.drop_length]
    simp [zeroS]
  | succ d ih =>
    intro i k a hi hk ha
    obtain ⟨k, rfl⟩ : ∃ m, k = m + 1 := ⟨k - 1, by omega⟩
    have hil : i < l.length := by omega
    have hx := hb l[i] (List.getElem_mem hil)
    have ho := or_u8 a l[i] ha hx
    simp only [num_Zero.l0]
    rw [if_pos (by omega), if_pos (by omega), if_pos (by omega), rd_eq l i hil, w64 (by omega) (by omega)]
    rw [show ((i : Int) + 1) = ((i + 1 : Nat) : Int) by omega, ih (i + 1) k _ (by omega) (by omega) ⟨ho.1, ho.2.1⟩]
    rw [List.drop_eq_getElem_cons hil]
    simp only [zeroS, List.all_cons]
    have : (Go.bits .or .u8 a l[i] == 0) = (a == 0 && l[i] == 0) := by
      rw [Bool.eq_iff_iff]
      simp [ho.2.2]
    rw [this, Bool.and_assoc]
theorem Zero_eq (k : Nat) (l : List Int) (hb : isBytes l) (hl : l.length ≤ 140737488355328) (hk : l.length < k) : num_Zero.f k l = some (zeroS l) := by
  have := Zero_loop l hb hl l.length 0 k 0 (by omega) hk (by omega)
  simpa [num_Zero.f] using this
theorem refZero_loop (l : List Int) (hl : l.length ≤ 140737488355328) : ∀ (d i k : Nat), i + d = l.length → d < k →
    leveeref01_Zero.l0 k l (i : Int) = some (zeroS (l.drop i)) := by
  intro d
  induction d with
  | zero =>
    intro i k hi hk
    obtain ⟨k, rfl⟩ : ∃ m, k = m + 1 := ⟨k - 1, by omega⟩
    obtain rfl : i = l.length := by omega
    simp only [leveeref01_Zero.l0]
    rw [if_neg (by omega), List.drop_length]
    rfl
  | succ d ih =>
    intro i k hi hk
    obtain ⟨k, rfl⟩ : ∃ m, k = m + 1 := ⟨k - 1, by omega⟩
    have hil : i < l.length := by omega
    simp only [leveeref01_Zero.l0]
    rw [if_pos (by omega), if_pos (by omega), rd_eq l i hil, w64 (by omega) (by omega), List.drop_eq_getElem_cons hil]
    by_cases h : l[i] = 0
    · rw [if_pos h, show ((i : Int) + 1) = ((i + 1 : Nat) : Int) by omega, ih (i + 1) k (by omega) (by omega)]
      simp [zeroS, h]
    · rw [if_neg h]
      have hh : (l[i] == 0) = false := by simp [h]
      simp only [zeroS, List.all_cons, hh, Bool.false_and]
theorem refZero_eq (k : Nat) (l : List Int) (hl : l.length ≤ 140737488355328) (hk : l.length < k) : leveeref01_Zero.f k l = some (zeroS l) := by
  have := refZero_loop l hl l.length 0 k (by omega) hk
  simpa [leveeref01_Zero.f] using this
theorem isBytes_of_wf {l : List Int} (h : ∀ x ∈ l, (Lit.int .u8 x).wf = true) : isBytes l := by
  intro x hx
  have := h x hx
  simp [Lit.wf, IntKind.min, IntKind.max, IntKind.signed, IntKind.bits] at this
  omega
end Go.Proofs.Ytnlneiiccoakjaa.Num
