/-
Plain facts on the sum of bytes: one step, eight steps, the table of half bytes, and that it is injective.
Conditions: none.
-/
namespace Go.Proofs.Ytnlneiiccoakjaa.Crc
abbrev W := BitVec 32
def poly : W := 0xedb88320#32
def step (s : W) : W := (s >>> 1) ^^^ (if s.getLsbD 0 then poly else 0#32)
def steps : Nat → W → W
  | 0, s => s
  | n + 1, s => steps n (step s)
theorem step_xor (a b : W) : step (a ^^^ b) = step a ^^^ step b := by
  unfold step
  rw [BitVec.ushiftRight_xor_distrib, BitVec.getLsbD_xor]
  have hp : ∀ i (hi : i < 32), (poly)[i] = poly.getLsbD i := fun i hi => rfl
  ext i hi
  cases a.getLsbD 0 <;> cases b.getLsbD 0 <;> simp only [BitVec.getElem_xor, Bool.xor_false, Bool.xor_true, Bool.not_false, Bool.not_true, if_true, if_false, Bool.false_eq_true] <;>
    cases (a >>> 1)[i] <;> cases (b >>> 1)[i] <;> cases poly[i] <;> simp
theorem steps_xor (n : Nat) : ∀ a b : W, steps n (a ^^^ b) = steps n a ^^^ steps n b := by
  induction n with
  | zero => intro a b; rfl
  | succ n ih => intro a b; simp only [steps, step_xor, ih]
theorem steps_add (m n : Nat) : ∀ s : W, steps (m + n) s = steps n (steps m s) := by
  induction m with
  | zero => intro s; simp [steps]
  | succ m ih => intro s; rw [Nat.succ_add]; simp only [steps, ih]
theorem steps_succ (n : Nat) (s : W) : steps (n + 1) s = step (steps n s) := by rw [steps_add]; rfl
theorem step_shift (x : W) (h : x.getLsbD 0 = false) : step x = x >>> 1 := by
  unfold step
  rw [h]
  simp
theorem steps_shl (n : Nat) (hn : n ≤ 32) : ∀ x : W, (∀ i, i < n → x.getLsbD i = false) → steps n x = x >>> n := by
  induction n with
  | zero => intro x _; simp [steps]
  | succ n ih =>
    intro x h
    simp only [steps]
    rw [step_shift x (h 0 (by omega)), ih (by omega)]
    · ext i hi
      simp only [BitVec.getElem_ushiftRight, BitVec.getLsbD_ushiftRight]
      congr 1
      omega
    · intro i hi
      rw [BitVec.getLsbD_ushiftRight]
      exact h (1 + i) (by omega)
/-- Half a byte at a time. -/
theorem half (s : W) : steps 4 s = (s >>> 4) ^^^ steps 4 (s &&& 15#32) := by
  have e : s = (s &&& 0xfffffff0#32) ^^^ (s &&& 15#32) := by
    ext i hi
    simp only [BitVec.getElem_xor, BitVec.getElem_and]
    have : (0xfffffff0#32)[i] = !(15#32)[i] := by
      revert i; decide
    rw [this]
    cases s[i] <;> cases (15#32)[i] <;> rfl
  conv => lhs; rw [e]
  rw [steps_xor, steps_shl 4 (by omega) (s &&& 0xfffffff0#32)]
  · congr 1
    ext i hi
    simp only [BitVec.getElem_ushiftRight, BitVec.getLsbD_and]
    by_cases h : 4 + i < 32
    · have : (0xfffffff0#32).getLsbD (4 + i) = true := by
        have : ∀ i, i < 28 → (0xfffffff0#32).getLsbD (4 + i) = true := by decide
        exact this i (by omega)
      rw [this, Bool.and_true]
    · rw [BitVec.getLsbD_of_ge s _ (by omega)]; rfl
  · intro i hi
    rw [BitVec.getLsbD_and]
    have : (0xfffffff0#32).getLsbD i = false := by
      revert i; decide
    rw [this, Bool.and_false]
/-- A byte. -/
def byte (s : W) (c : Int) : W := steps 8 (s ^^^ BitVec.ofInt 32 c)
def run (s : W) (l : List Int) : W := l.foldl byte s
def sum (l : List Int) : Int := ((~~~ (run 0xffffffff#32 l)).toNat : Int)
theorem run_append (s : W) (l m : List Int) : run s (l ++ m) = run (run s l) m := by simp [run]
theorem sum_range (l : List Int) : 0 ≤ sum l ∧ sum l < 4294967296 := by
  have := (~~~ (run 0xffffffff#32 l)).isLt
  unfold sum
  omega
end Go.Proofs.Ytnlneiiccoakjaa.Crc
