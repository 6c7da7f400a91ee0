/-
Plain laws on inodes: what the printed functions of packages inode and leveeref07 tell, as one function each.
Conditions: none.
-/
import Derived.Test.YthcndfnmgggblaaNumI
import Derived.Test.YthcndfnmgggblaaPx4
import Derived.Test.YthcndfnmgggblaaPx6
import Derived.Test.YthcndfnmgggblaaPx8
import Derived.Test.YthcndfnmgggblaaPx10
import Derived.Test.YthcndfnmgggblaaHandInode2
import Derived.Test.YthcndfnmgggblaaHandGet
namespace Go.Proofs.Ythcndfnmgggblaa.Inode
set_option linter.unusedSimpArgs false
set_option linter.unusedVariables false
open Go.RowKit Go.Proofs.YthcndfnmgggblaaW.PrintWords Go.Proofs.YthcndfnmgggblaaW.PrintLast Go.Proofs.YthcndfnmgggblaaW.PrintMore Go.Proofs.Ythcndfnmgggblaa.P Go.Proofs.Ythcndfnmgggblaa.Num
theorem ww1 : wrap64 1 = 1 := w64 (by omega) (by omega)
theorem ww2 : wrap64 2 = 2 := w64 (by omega) (by omega)
theorem ww3 : wrap64 3 = 3 := w64 (by omega) (by omega)
theorem ww4 : wrap64 4 = 4 := w64 (by omega) (by omega)
theorem ww5 : wrap64 5 = 5 := w64 (by omega) (by omega)
theorem ww6 : wrap64 6 = 6 := w64 (by omega) (by omega)
theorem ww7 : wrap64 7 = 7 := w64 (by omega) (by omega)
theorem ww8 : wrap64 8 = 8 := w64 (by omega) (by omega)
/-- Whether an inode can be. -/
def RI (a0 a1 a2 a3 a4 a5 a6 a7 a8 a9 a10 a11 : Int) : Prop :=
  ((0 ≤ a4 ∧ a4 < 4096) ∧ (0 ≤ a5 ∧ a5 < 4096) ∧ (0 ≤ a6 ∧ a6 < 4096) ∧ (0 ≤ a7 ∧ a7 < 4096) ∧ (0 ≤ a8 ∧ a8 < 4096) ∧ (0 ≤ a9 ∧ a9 < 4096) ∧ (0 ≤ a10 ∧ a10 < 4096) ∧ (0 ≤ a11 ∧ a11 < 4096)) ∧
  ((a0 = 0 ∧ a1 = 0 ∧ a2 = 0 ∧ a3 = 0 ∧ a4 = 0 ∧ a5 = 0 ∧ a6 = 0 ∧ a7 = 0 ∧ a8 = 0 ∧ a9 = 0 ∧ a10 = 0 ∧ a11 = 0) ∨
   (1 ≤ a0 ∧ a0 ≤ 3 ∧ 0 ≤ a1 ∧ a1 ≤ 1000 ∧ 0 ≤ a2 ∧ a2 ≤ 1066496 ∧ 1 ≤ a3 ∧ a3 ≤ 4611686018427387904 ∧ (a0 = 2 → Int.tmod a2 256 = 0) ∧ (a0 = 3 → 1 ≤ a2 ∧ a2 ≤ 255)))
instance (a0 a1 a2 a3 a4 a5 a6 a7 a8 a9 a10 a11 : Int) : Decidable (RI a0 a1 a2 a3 a4 a5 a6 a7 a8 a9 a10 a11) := by unfold RI; infer_instance
theorem some_decide {b : Bool} {p : Prop} [Decidable p] (h : b = true ↔ p) : some b = some (decide p) := by
  congr 1
  rw [Bool.eq_iff_iff, decide_eq_true_iff]
  exact h
theorem ite_case {α : Type} {p : Prop} [Decidable p] {x y r : α} (h1 : p → x = r) (h2 : ¬ p → y = r) : (if p then x else y) = r := by
  by_cases h : p
  · rw [if_pos h]; exact h1 h
  · rw [if_neg h]; exact h2 h
theorem sized_eq (a0 a1 a2 a3 a4 a5 a6 a7 a8 a9 a10 a11 : Int) : inode_sized.f a0 a1 a2 a3 a4 a5 a6 a7 a8 a9 a10 a11 = some (decide (0 ≤ a1 ∧ a1 ≤ 1000 ∧ 0 ≤ a2 ∧ a2 ≤ 1066496 ∧ 1 ≤ a3 ∧ a3 ≤ 4611686018427387904)) := by
  unfold inode_sized.f
  repeat' split
  all_goals refine some_decide ?_
  all_goals simp only [decide_eq_true_eq, Bool.false_eq_true, false_iff]
  all_goals omega
theorem iRight_eq (k : Nat) (a0 a1 a2 a3 a4 a5 a6 a7 a8 a9 a10 a11 : Int) : inode_Right.f (k + 9) a0 a1 a2 a3 a4 a5 a6 a7 a8 a9 a10 a11 = some (decide (RI a0 a1 a2 a3 a4 a5 a6 a7 a8 a9 a10 a11)) := by
  unfold inode_Right.f inode_all.f
  rw [Option.bind_some]
  dsimp only
  simp only [inode_Right.l0, sized_eq, Int.reduceLT, Int.reduceEq, Int.reduceAdd, ww1, ww2, ww3, ww4, ww5, ww6, ww7, ww8, ↓reduceIte, Option.bind_some]
  repeat' refine ite_case (fun _ => ?_) (fun _ => ?_)
  all_goals refine some_decide ?_
  all_goals simp only [decide_eq_true_eq, Bool.false_eq_true, false_iff, Bool.and_eq_true, beq_iff_eq, RI] at *
  all_goals omega
theorem rstep (k : Nat) (b : Bool) (a0 a1 a2 a3 a4 a5 a6 a7 a8 a9 a10 a11 : Int) : leveeref07_Right.l0 (k + 7) b 0 a0 a1 a2 a3 a4 a5 a6 a7 a8 a9 a10 a11 =
    some (b && decide ((0 ≤ a4 ∧ a4 < 4096) ∧ (0 ≤ a5 ∧ a5 < 4096) ∧ (0 ≤ a6 ∧ a6 < 4096) ∧ (0 ≤ a7 ∧ a7 < 4096) ∧ (0 ≤ a8 ∧ a8 < 4096) ∧ (0 ≤ a9 ∧ a9 < 4096) ∧ (0 ≤ a10 ∧ a10 < 4096) ∧ (0 ≤ a11 ∧ a11 < 4096))) := by
  have hf : ∀ (k : Nat) (c d : Int), (if c ≥ 0 then (leveeref07_Right.l0 k (decide (c < 4096)) d a0 a1 a2 a3 a4 a5 a6 a7 a8 a9 a10 a11) else leveeref07_Right.l0 k false d a0 a1 a2 a3 a4 a5 a6 a7 a8 a9 a10 a11) = leveeref07_Right.l0 k (decide (0 ≤ c ∧ c < 4096)) d a0 a1 a2 a3 a4 a5 a6 a7 a8 a9 a10 a11 := by
    intro k c d
    split
    · next h => rw [show decide (c < 4096) = decide (0 ≤ c ∧ c < 4096) from decide_eq_decide.mpr (by omega)]
    · next h => rw [show false = decide (0 ≤ c ∧ c < 4096) from (decide_eq_false (by omega)).symm]
  have hs0 : ∀ (k : Nat) (b : Bool), leveeref07_Right.l0 (k + 1) b 0 a0 a1 a2 a3 a4 a5 a6 a7 a8 a9 a10 a11 = leveeref07_Right.l0 k (b && decide (0 ≤ a4 ∧ a4 < 4096)) 1 a0 a1 a2 a3 a4 a5 a6 a7 a8 a9 a10 a11 := by
    intro k b
    cases b
    · simp only [leveeref07_Right.l0, Int.reduceLT, Int.reduceAdd, ww1, ↓reduceIte, Bool.false_eq_true, Bool.false_and]
    · simp only [leveeref07_Right.l0, Int.reduceLT, Int.reduceEq, Int.reduceAdd, ww1, ↓reduceIte, hf, Bool.true_and]
  have hs1 : ∀ (k : Nat) (b : Bool), leveeref07_Right.l0 (k + 1) b 1 a0 a1 a2 a3 a4 a5 a6 a7 a8 a9 a10 a11 = leveeref07_Right.l0 k (b && decide (0 ≤ a5 ∧ a5 < 4096)) 2 a0 a1 a2 a3 a4 a5 a6 a7 a8 a9 a10 a11 := by
    intro k b
    cases b
    · simp only [leveeref07_Right.l0, Int.reduceLT, Int.reduceAdd, ww2, ↓reduceIte, Bool.false_eq_true, Bool.false_and]
    · simp only [leveeref07_Right.l0, Int.reduceLT, Int.reduceEq, Int.reduceAdd, ww2, ↓reduceIte, hf, Bool.true_and]
  have hs2 : ∀ (k : Nat) (b : Bool), leveeref07_Right.l0 (k + 1) b 2 a0 a1 a2 a3 a4 a5 a6 a7 a8 a9 a10 a11 = leveeref07_Right.l0 k (b && decide (0 ≤ a6 ∧ a6 < 4096)) 3 a0 a1 a2 a3 a4 a5 a6 a7 a8 a9 a10 a11 := by
    intro k b
    cases b
    · simp only [leveeref07_Right.l0, Int.reduceLT, Int.reduceAdd, ww3, ↓reduceIte, Bool.false_eq_true, Bool.false_and]
    · simp only [leveeref07_Right.l0, Int.reduceLT, Int.reduceEq, Int.reduceAdd, ww3, ↓reduceIte, hf, Bool.true_and]
  have hs3 : ∀ (k : Nat) (b : Bool), leveeref07_Right.l0 (k + 1) b 3 a0 a1 a2 a3 a4 a5 a6 a7 a8 a9 a10 a11 = leveeref07_Right.l0 k (b && decide (0 ≤ a7 ∧ a7 < 4096)) 4 a0 a1 a2 a3 a4 a5 a6 a7 a8 a9 a10 a11 := by
    intro k b
    cases b
    · simp only [leveeref07_Right.l0, Int.reduceLT, Int.reduceAdd, ww4, ↓reduceIte, Bool.false_eq_true, Bool.false_and]
    · simp only [leveeref07_Right.l0, Int.reduceLT, Int.reduceEq, Int.reduceAdd, ww4, ↓reduceIte, hf, Bool.true_and]
  have hs4 : ∀ (k : Nat) (b : Bool), leveeref07_Right.l0 (k + 1) b 4 a0 a1 a2 a3 a4 a5 a6 a7 a8 a9 a10 a11 = leveeref07_Right.l0 k (b && decide (0 ≤ a8 ∧ a8 < 4096)) 5 a0 a1 a2 a3 a4 a5 a6 a7 a8 a9 a10 a11 := by
    intro k b
    cases b
    · simp only [leveeref07_Right.l0, Int.reduceLT, Int.reduceAdd, ww5, ↓reduceIte, Bool.false_eq_true, Bool.false_and]
    · simp only [leveeref07_Right.l0, Int.reduceLT, Int.reduceEq, Int.reduceAdd, ww5, ↓reduceIte, hf, Bool.true_and]
  have hs5 : ∀ (k : Nat) (b : Bool), leveeref07_Right.l0 (k + 1) b 5 a0 a1 a2 a3 a4 a5 a6 a7 a8 a9 a10 a11 = leveeref07_Right.l0 k (b && decide (0 ≤ a9 ∧ a9 < 4096)) 6 a0 a1 a2 a3 a4 a5 a6 a7 a8 a9 a10 a11 := by
    intro k b
    cases b
    · simp only [leveeref07_Right.l0, Int.reduceLT, Int.reduceAdd, ww6, ↓reduceIte, Bool.false_eq_true, Bool.false_and]
    · simp only [leveeref07_Right.l0, Int.reduceLT, Int.reduceEq, Int.reduceAdd, ww6, ↓reduceIte, hf, Bool.true_and]
  rw [hs0, hs1, hs2, hs3, hs4, hs5, leveeref07_Right.l0, if_neg (by decide)]
  cases b
  · simp
  · repeat' refine ite_case (fun _ => ?_) (fun _ => ?_)
    all_goals congr 1
    all_goals rw [Bool.eq_iff_iff]
    all_goals simp only [Bool.and_eq_true, decide_eq_true_eq, true_and, Bool.true_and, Bool.false_eq_true, false_iff] at *
    all_goals omega
theorem rRight_eq (k : Nat) (a0 a1 a2 a3 a4 a5 a6 a7 a8 a9 a10 a11 : Int) : leveeref07_Right.f (k + 9) a0 a1 a2 a3 a4 a5 a6 a7 a8 a9 a10 a11 = some (decide (RI a0 a1 a2 a3 a4 a5 a6 a7 a8 a9 a10 a11)) := by
  unfold leveeref07_Right.f
  simp only [leveeref07_Right.j0, leveeref07_Right.j1, rstep, Bool.false_eq_true, ↓reduceIte]
  repeat' refine ite_case (fun _ => ?_) (fun _ => ?_)
  all_goals refine some_decide ?_
  all_goals simp only [decide_eq_true_eq, Bool.false_eq_true, false_iff, Bool.and_eq_true, beq_iff_eq, Bool.true_and, Bool.false_and, true_and, RI] at *
  all_goals omega
/-- An inode's bytes. -/
def bytesI (a0 a1 a2 a3 a4 a5 a6 a7 a8 a9 a10 a11 : Int) : List Int :=
  [a0 % 256, 0] ++ putS (IntKind.u64.wrap a1) 2 ++ putS (IntKind.u64.wrap a2) 4 ++ putS (IntKind.u64.wrap a3) 8 ++ putS (IntKind.u64.wrap a4) 2 ++ putS (IntKind.u64.wrap a5) 2 ++ putS (IntKind.u64.wrap a6) 2 ++ putS (IntKind.u64.wrap a7) 2 ++ putS (IntKind.u64.wrap a8) 2 ++ putS (IntKind.u64.wrap a9) 2 ++ putS (IntKind.u64.wrap a10) 2 ++ putS (IntKind.u64.wrap a11) 2 ++ List.replicate 32 0
theorem bytesI_length (a0 a1 a2 a3 a4 a5 a6 a7 a8 a9 a10 a11 : Int) : (bytesI a0 a1 a2 a3 a4 a5 a6 a7 a8 a9 a10 a11).length = 64 := by simp [bytesI, putS_length]
set_option maxRecDepth 100000 in
theorem rows_eq (a0 a1 a2 a3 a4 a5 a6 a7 a8 a9 a10 a11 : Int) : putRows (putHead a0 a1 a2 a3) [a4, a5, a6, a7, a8, a9, a10, a11] 8 = bytesI a0 a1 a2 a3 a4 a5 a6 a7 a8 a9 a10 a11 := by rfl
theorem iPut_eq (k : Nat) (a0 a1 a2 a3 a4 a5 a6 a7 a8 a9 a10 a11 : Int) : inode_Put.f (k + 9) a0 a1 a2 a3 a4 a5 a6 a7 a8 a9 a10 a11 = some (if RI a0 a1 a2 a3 a4 a5 a6 a7 a8 a9 a10 a11 then (bytesI a0 a1 a2 a3 a4 a5 a6 a7 a8 a9 a10 a11, 0) else ([], 1)) := by
  unfold inode_Put.f
  rw [iRight_eq, Option.bind_some, rows_eq]
  by_cases h : RI a0 a1 a2 a3 a4 a5 a6 a7 a8 a9 a10 a11
  · rw [if_pos h, if_pos (decide_eq_true h)]
  · rw [if_neg h, if_neg (by simpa using h)]
theorem u64_range (x : Int) : 0 ≤ IntKind.u64.wrap x ∧ IntKind.u64.wrap x < 18446744073709551616 := by
  unfold IntKind.wrap
  simp [IntKind.bits, IntKind.signed]
  omega
theorem Bytes_u (k m : Nat) (n : Int) (hm : m ≤ 1000) (hk : m < k) : leveeref01_Bytes.f k (IntKind.u64.wrap n) m = some (putS (IntKind.u64.wrap n) m) := Bytes_eq k _ m (u64_range n).1 (u64_range n).2 hm hk
theorem Put_l1 : ∀ (d k : Nat) (l : List Int), l.length + d = 64 → leveeref07_Put.l1 (k + d + 1) l = some (l ++ List.replicate d 0, 0)
  | 0, k, l, h => by
    rw [leveeref07_Put.l1, if_neg (by omega)]
    simp
  | d + 1, k, l, h => by
    rw [leveeref07_Put.l1, if_pos (by omega), if_pos (by omega), show k + (d + 1) = k + d + 1 from rfl, Put_l1 d k (l ++ [0]) (by simp; omega), List.replicate_succ]
    simp
theorem app_lt {l : List Int} {n : Int} {m : Nat} (h : l.length ≤ 1000) (hm : m ≤ 1000) : l.length + (putS n m).length < 140737488355328 := by rw [putS_length]; omega
theorem Bytes_2 (n : Int) (j : Nat) (hj : 2 < j) : leveeref01_Bytes.f j (IntKind.u64.wrap n) 2 = some (putS (IntKind.u64.wrap n) 2) := Bytes_u j 2 n (by omega) hj
theorem Bytes_4 (n : Int) (j : Nat) (hj : 4 < j) : leveeref01_Bytes.f j (IntKind.u64.wrap n) 4 = some (putS (IntKind.u64.wrap n) 4) := Bytes_u j 4 n (by omega) hj
theorem Bytes_8 (n : Int) (j : Nat) (hj : 8 < j) : leveeref01_Bytes.f j (IntKind.u64.wrap n) 8 = some (putS (IntKind.u64.wrap n) 8) := Bytes_u j 8 n (by omega) hj
theorem app_len {l : List Int} {n : Int} {m c : Nat} (h : l.length = c) : (l ++ putS n m).length = c + m := by rw [List.length_append, putS_length, h]
theorem rput_l0 (k : Nat) (x : List Int) (a0 a1 a2 a3 a4 a5 a6 a7 a8 a9 a10 a11 : Int) (hl : x.length ≤ 1000) : leveeref07_Put.l0 (k + 4) x 0 a0 a1 a2 a3 a4 a5 a6 a7 a8 a9 a10 a11 = leveeref07_Put.l0 (k + 3) (x ++ putS (IntKind.u64.wrap a4) 2) 1 a0 a1 a2 a3 a4 a5 a6 a7 a8 a9 a10 a11 := by
  rw [leveeref07_Put.l0, if_pos (by decide), if_pos (by decide), Bytes_2 _ _ (by omega), Option.bind_some, if_pos (app_lt hl (by omega)), show wrap64 (0 + 1) = 1 from ww1]
theorem rput_l1 (k : Nat) (x : List Int) (a0 a1 a2 a3 a4 a5 a6 a7 a8 a9 a10 a11 : Int) (hl : x.length ≤ 1000) : leveeref07_Put.l0 (k + 4) x 1 a0 a1 a2 a3 a4 a5 a6 a7 a8 a9 a10 a11 = leveeref07_Put.l0 (k + 3) (x ++ putS (IntKind.u64.wrap a5) 2) 2 a0 a1 a2 a3 a4 a5 a6 a7 a8 a9 a10 a11 := by
  rw [leveeref07_Put.l0, if_pos (by decide), if_neg (by decide), if_pos (by decide), Bytes_2 _ _ (by omega), Option.bind_some, if_pos (app_lt hl (by omega)), show wrap64 (1 + 1) = 2 from ww2]
theorem rput_l2 (k : Nat) (x : List Int) (a0 a1 a2 a3 a4 a5 a6 a7 a8 a9 a10 a11 : Int) (hl : x.length ≤ 1000) : leveeref07_Put.l0 (k + 4) x 2 a0 a1 a2 a3 a4 a5 a6 a7 a8 a9 a10 a11 = leveeref07_Put.l0 (k + 3) (x ++ putS (IntKind.u64.wrap a6) 2) 3 a0 a1 a2 a3 a4 a5 a6 a7 a8 a9 a10 a11 := by
  rw [leveeref07_Put.l0, if_pos (by decide), if_neg (by decide), if_neg (by decide), if_pos (by decide), Bytes_2 _ _ (by omega), Option.bind_some, if_pos (app_lt hl (by omega)), show wrap64 (2 + 1) = 3 from ww3]
theorem rput_l3 (k : Nat) (x : List Int) (a0 a1 a2 a3 a4 a5 a6 a7 a8 a9 a10 a11 : Int) (hl : x.length ≤ 1000) : leveeref07_Put.l0 (k + 4) x 3 a0 a1 a2 a3 a4 a5 a6 a7 a8 a9 a10 a11 = leveeref07_Put.l0 (k + 3) (x ++ putS (IntKind.u64.wrap a7) 2) 4 a0 a1 a2 a3 a4 a5 a6 a7 a8 a9 a10 a11 := by
  rw [leveeref07_Put.l0, if_pos (by decide), if_neg (by decide), if_neg (by decide), if_neg (by decide), if_pos (by decide), Bytes_2 _ _ (by omega), Option.bind_some, if_pos (app_lt hl (by omega)), show wrap64 (3 + 1) = 4 from ww4]
theorem rput_l4 (k : Nat) (x : List Int) (a0 a1 a2 a3 a4 a5 a6 a7 a8 a9 a10 a11 : Int) (hl : x.length ≤ 1000) : leveeref07_Put.l0 (k + 4) x 4 a0 a1 a2 a3 a4 a5 a6 a7 a8 a9 a10 a11 = leveeref07_Put.l0 (k + 3) (x ++ putS (IntKind.u64.wrap a8) 2) 5 a0 a1 a2 a3 a4 a5 a6 a7 a8 a9 a10 a11 := by
  rw [leveeref07_Put.l0, if_pos (by decide), if_neg (by decide), if_neg (by decide), if_neg (by decide), if_neg (by decide), if_pos (by decide), Bytes_2 _ _ (by omega), Option.bind_some, if_pos (app_lt hl (by omega)), show wrap64 (4 + 1) = 5 from ww5]
theorem rput_l5 (k : Nat) (x : List Int) (a0 a1 a2 a3 a4 a5 a6 a7 a8 a9 a10 a11 : Int) (hl : x.length ≤ 1000) : leveeref07_Put.l0 (k + 4) x 5 a0 a1 a2 a3 a4 a5 a6 a7 a8 a9 a10 a11 = leveeref07_Put.l0 (k + 3) (x ++ putS (IntKind.u64.wrap a9) 2) 6 a0 a1 a2 a3 a4 a5 a6 a7 a8 a9 a10 a11 := by
  rw [leveeref07_Put.l0, if_pos (by decide), if_neg (by decide), if_neg (by decide), if_neg (by decide), if_neg (by decide), if_neg (by decide), if_pos (by decide), Bytes_2 _ _ (by omega), Option.bind_some, if_pos (app_lt hl (by omega)), show wrap64 (5 + 1) = 6 from ww6]
theorem rput_l6 (k : Nat) (x : List Int) (a0 a1 a2 a3 a4 a5 a6 a7 a8 a9 a10 a11 : Int) (hl : x.length = 28) : leveeref07_Put.l0 (k + 34) x 6 a0 a1 a2 a3 a4 a5 a6 a7 a8 a9 a10 a11 = some (x ++ putS (IntKind.u64.wrap a10) 2 ++ putS (IntKind.u64.wrap a11) 2 ++ List.replicate 32 0, 0) := by
  have h1 : (x ++ putS (IntKind.u64.wrap a10) 2).length = 30 := app_len hl
  have h2 : (x ++ putS (IntKind.u64.wrap a10) 2 ++ putS (IntKind.u64.wrap a11) 2).length = 32 := app_len h1
  rw [leveeref07_Put.l0, if_neg (by decide), Bytes_2 _ _ (by omega), Option.bind_some, if_pos (app_lt (by omega) (by omega)), Option.bind_some, Bytes_2 _ _ (by omega), Option.bind_some, if_pos (app_lt (by omega) (by omega)), show k + 33 = k + 32 + 1 from rfl, Put_l1 32 _ _ (by omega)]
theorem rput_loop (k : Nat) (x : List Int) (a0 a1 a2 a3 a4 a5 a6 a7 a8 a9 a10 a11 : Int) (hl : x.length = 16) : leveeref07_Put.l0 (k + 40) x 0 a0 a1 a2 a3 a4 a5 a6 a7 a8 a9 a10 a11 = some (x ++ putS (IntKind.u64.wrap a4) 2 ++ putS (IntKind.u64.wrap a5) 2 ++ putS (IntKind.u64.wrap a6) 2 ++ putS (IntKind.u64.wrap a7) 2 ++ putS (IntKind.u64.wrap a8) 2 ++ putS (IntKind.u64.wrap a9) 2 ++ putS (IntKind.u64.wrap a10) 2 ++ putS (IntKind.u64.wrap a11) 2 ++ List.replicate 32 0, 0) := by
  have h1 : (x ++ putS (IntKind.u64.wrap a4) 2).length = 18 := app_len hl
  have h2 : (x ++ putS (IntKind.u64.wrap a4) 2 ++ putS (IntKind.u64.wrap a5) 2).length = 20 := app_len h1
  have h3 : (x ++ putS (IntKind.u64.wrap a4) 2 ++ putS (IntKind.u64.wrap a5) 2 ++ putS (IntKind.u64.wrap a6) 2).length = 22 := app_len h2
  have h4 : (x ++ putS (IntKind.u64.wrap a4) 2 ++ putS (IntKind.u64.wrap a5) 2 ++ putS (IntKind.u64.wrap a6) 2 ++ putS (IntKind.u64.wrap a7) 2).length = 24 := app_len h3
  have h5 : (x ++ putS (IntKind.u64.wrap a4) 2 ++ putS (IntKind.u64.wrap a5) 2 ++ putS (IntKind.u64.wrap a6) 2 ++ putS (IntKind.u64.wrap a7) 2 ++ putS (IntKind.u64.wrap a8) 2).length = 26 := app_len h4
  have h6 : (x ++ putS (IntKind.u64.wrap a4) 2 ++ putS (IntKind.u64.wrap a5) 2 ++ putS (IntKind.u64.wrap a6) 2 ++ putS (IntKind.u64.wrap a7) 2 ++ putS (IntKind.u64.wrap a8) 2 ++ putS (IntKind.u64.wrap a9) 2).length = 28 := app_len h5
  rw [show k + 40 = (k + 36) + 4 from rfl, rput_l0 _ _ _ _ _ _ _ _ _ _ _ _ _ _ (by omega), show k + 36 + 3 = (k + 35) + 4 from rfl, rput_l1 _ _ _ _ _ _ _ _ _ _ _ _ _ _ (by omega), show k + 35 + 3 = (k + 34) + 4 from rfl, rput_l2 _ _ _ _ _ _ _ _ _ _ _ _ _ _ (by omega), show k + 34 + 3 = (k + 33) + 4 from rfl, rput_l3 _ _ _ _ _ _ _ _ _ _ _ _ _ _ (by omega), show k + 33 + 3 = (k + 32) + 4 from rfl, rput_l4 _ _ _ _ _ _ _ _ _ _ _ _ _ _ (by omega), show k + 32 + 3 = (k + 31) + 4 from rfl, rput_l5 _ _ _ _ _ _ _ _ _ _ _ _ _ _ (by omega), show k + 31 + 3 = k + 34 from rfl, rput_l6 _ _ _ _ _ _ _ _ _ _ _ _ _ _ h6]
theorem rPut_eq (k : Nat) (a0 a1 a2 a3 a4 a5 a6 a7 a8 a9 a10 a11 : Int) : leveeref07_Put.f (k + 40) a0 a1 a2 a3 a4 a5 a6 a7 a8 a9 a10 a11 = some (if RI a0 a1 a2 a3 a4 a5 a6 a7 a8 a9 a10 a11 then (bytesI a0 a1 a2 a3 a4 a5 a6 a7 a8 a9 a10 a11, 0) else ([], 1)) := by
  have h0 : ([a0 % 256, 0] : List Int).length = 2 := rfl
  have h1 : ([a0 % 256, 0] ++ putS (IntKind.u64.wrap a1) 2).length = 4 := app_len h0
  have h2 : ([a0 % 256, 0] ++ putS (IntKind.u64.wrap a1) 2 ++ putS (IntKind.u64.wrap a2) 4).length = 8 := app_len h1
  have h3 : ([a0 % 256, 0] ++ putS (IntKind.u64.wrap a1) 2 ++ putS (IntKind.u64.wrap a2) 4 ++ putS (IntKind.u64.wrap a3) 8).length = 16 := app_len h2
  unfold leveeref07_Put.f
  rw [show leveeref07_Right.f (k + 40) a0 a1 a2 a3 a4 a5 a6 a7 a8 a9 a10 a11 = _ from rRight_eq (k + 31) a0 a1 a2 a3 a4 a5 a6 a7 a8 a9 a10 a11, Option.bind_some]
  by_cases h : RI a0 a1 a2 a3 a4 a5 a6 a7 a8 a9 a10 a11
  · rw [if_pos (decide_eq_true h), if_pos h, Option.bind_some, Bytes_2 _ _ (by omega), Option.bind_some, if_pos (app_lt (by omega) (by omega)), Option.bind_some, Bytes_4 _ _ (by omega), Option.bind_some, if_pos (app_lt (by omega) (by omega)), Option.bind_some, Bytes_8 _ _ (by omega), Option.bind_some, if_pos (app_lt (by omega) (by omega)), rput_loop _ _ _ _ _ _ _ _ _ _ _ _ _ _ h3]
    rfl
  · rw [if_neg (by simpa using h), if_neg h]
theorem loop_eq (b : ByteArray) : ∀ (d i : Nat) (r : List UInt8), i + d = b.size → ByteArray.toList.loop b i r = r.reverse ++ b.data.toList.drop i
  | 0, i, r, h => by
    have hs : b.data.toList.length = b.size := by rw [Array.length_toList]; rfl
    rw [ByteArray.toList.loop, if_neg (by omega), List.drop_of_length_le (by omega), List.append_nil]
  | d + 1, i, r, h => by
    have hs : b.data.toList.length = b.size := by rw [Array.length_toList]; rfl
    rw [ByteArray.toList.loop, if_pos (by omega), loop_eq b d (i + 1) _ (by omega)]
    have hi : i < b.data.toList.length := by omega
    rw [List.drop_eq_getElem_cons hi]
    simp only [List.reverse_cons, List.append_assoc, List.singleton_append]
    congr 2
    have h2 : i < b.data.size := by rw [← Array.length_toList]; omega
    simp only [ByteArray.get!, Array.getElem_toList]
    exact getElem!_pos b.data i h2
theorem toList_eq (b : ByteArray) : b.toList = b.data.toList := by
  unfold ByteArray.toList
  rw [loop_eq b b.size 0 [] (by omega)]
  rfl
theorem str_inj {a b : List Int} (ha : isBytes a) (hb : isBytes b) : (strOfNums a).toList = (strOfNums b).toList ↔ a = b := by
  refine ⟨fun h => ?_, fun h => by rw [h]⟩
  rw [toList_eq, toList_eq] at h
  have h' : a.map (fun n : Int => UInt8.ofNat n.toNat) = b.map (fun n : Int => UInt8.ofNat n.toNat) := h
  clear h
  induction a generalizing b with
  | nil =>
    cases b with
    | nil => rfl
    | cons y b => simp at h'
  | cons x a ih =>
    cases b with
    | nil => simp at h'
    | cons y b =>
      rw [List.map_cons, List.map_cons] at h'
      injection h' with h1 h2
      rw [ih (fun z hz => ha z (List.mem_cons_of_mem _ hz)) (fun z hz => hb z (List.mem_cons_of_mem _ hz)) h2]
      congr 1
      have hx := ha x (List.mem_cons_self ..)
      have hy := hb y (List.mem_cons_self ..)
      have h3 := congrArg UInt8.toNat h1
      rw [UInt8.toNat_ofNat', UInt8.toNat_ofNat'] at h3
      omega
theorem putS_cons (b n : Int) (hb : 0 ≤ b ∧ b < 256) : ∀ m, putS (b + 256 * n) (m + 1) = b :: putS n m
  | 0 => by simp [putS, dig]; omega
  | m + 1 => by
    rw [putS_succ, putS_cons b n hb m, putS_succ]
    simp only [List.cons_append, List.cons.injEq, true_and]
    congr 2
    unfold dig
    rw [Int.pow_succ', ← Int.ediv_ediv_of_nonneg (by omega)]
    rw [show (b + 256 * n) / 256 = n by omega]
theorem putS_getS : ∀ l : List Int, isBytes l → putS (getS l) l.length = l
  | [], _ => rfl
  | b :: l, h => by
    rw [getS, List.length_cons, putS_cons b _ (h b (List.mem_cons_self ..)), putS_getS l (fun z hz => h z (List.mem_cons_of_mem _ hz))]
/-- The number that bytes a to b are. -/
def cutG (l : List Int) (a b : Nat) : Int := getS ((l.take b).drop a)
theorem cut_bytes {l : List Int} (h : isBytes l) (a b : Nat) : isBytes ((l.take b).drop a) := fun x hx => h x (List.mem_of_mem_take (List.mem_of_mem_drop hx))
theorem cut_length {l : List Int} {a b : Nat} (h : b ≤ l.length) : ((l.take b).drop a).length = b - a := by rw [List.length_drop, List.length_take, Nat.min_eq_left h]
theorem num_cut (k : Nat) {l : List Int} (hb : isBytes l) (a b : Nat) (h : b ≤ l.length) (h8 : b - a ≤ 8) (hk : 8 < k) : num_Get.f k ((l.take b).drop a) = some (cutG l a b) := by
  rw [Get_eq k _ (cut_bytes hb a b) hk, List.take_of_length_le (by rw [cut_length h]; omega)]
  rfl
theorem ref_cut (k : Nat) {l : List Int} (hb : isBytes l) (a b : Nat) (h : b ≤ l.length) (h8 : b - a ≤ 8) (hk : 8 < k) : leveeref01_Get.f k ((l.take b).drop a) = some (cutG l a b) := by
  rw [refGet_eq k _ (cut_bytes hb a b) hk, List.take_of_length_le (by rw [cut_length h]; omega)]
  rfl
theorem cut_range {l : List Int} (hb : isBytes l) (a b : Nat) (h : b ≤ l.length) : 0 ≤ cutG l a b ∧ cutG l a b < 256 ^ (b - a) := by
  have := getS_range _ (cut_bytes hb a b)
  rwa [cut_length h] at this
theorem iget_l0 (k : Nat) {l : List Int} (hb : isBytes l) (hl : l.length = 64) (d0 d1 d2 d3 d4 d5 d6 d7 d8 d9 d10 d11 p0 p1 p2 p3 p4 p5 p6 p7 : Int) : inode_Get.l0 (k + 10) l 0 d0 d1 d2 d3 d4 d5 d6 d7 d8 d9 d10 d11 p0 p1 p2 p3 p4 p5 p6 p7 = inode_Get.l0 (k + 9) l 1 d0 d1 d2 d3 d4 d5 d6 d7 d8 d9 d10 d11 (wrap64 (cutG l 16 18)) p1 p2 p3 p4 p5 p6 p7 := by
  have e1 : wrap64 (16 + wrap64 (0 * 2)) = 16 := by unfold wrap64; omega
  have e2 : wrap64 (16 + wrap64 (wrap64 (0 + 1) * 2)) = 18 := by unfold wrap64; omega
  rw [inode_Get.l0, if_pos (by decide), e1, e2, if_pos (by decide), if_pos (by decide), if_pos (by omega), show ((18 : Int)).toNat = 18 from rfl, show ((16 : Int)).toNat = 16 from rfl, num_cut _ hb 16 18 (by omega) (by omega) (by omega), Option.bind_some, if_pos rfl, show wrap64 (0 + 1) = 1 from ww1]
theorem iget_l1 (k : Nat) {l : List Int} (hb : isBytes l) (hl : l.length = 64) (d0 d1 d2 d3 d4 d5 d6 d7 d8 d9 d10 d11 p0 p1 p2 p3 p4 p5 p6 p7 : Int) : inode_Get.l0 (k + 10) l 1 d0 d1 d2 d3 d4 d5 d6 d7 d8 d9 d10 d11 p0 p1 p2 p3 p4 p5 p6 p7 = inode_Get.l0 (k + 9) l 2 d0 d1 d2 d3 d4 d5 d6 d7 d8 d9 d10 d11 p0 (wrap64 (cutG l 18 20)) p2 p3 p4 p5 p6 p7 := by
  have e1 : wrap64 (16 + wrap64 (1 * 2)) = 18 := by unfold wrap64; omega
  have e2 : wrap64 (16 + wrap64 (wrap64 (1 + 1) * 2)) = 20 := by unfold wrap64; omega
  rw [inode_Get.l0, if_pos (by decide), e1, e2, if_pos (by decide), if_pos (by decide), if_pos (by omega), show ((20 : Int)).toNat = 20 from rfl, show ((18 : Int)).toNat = 18 from rfl, num_cut _ hb 18 20 (by omega) (by omega) (by omega), Option.bind_some, if_neg (by decide), if_pos rfl, show wrap64 (1 + 1) = 2 from ww2]
theorem iget_l2 (k : Nat) {l : List Int} (hb : isBytes l) (hl : l.length = 64) (d0 d1 d2 d3 d4 d5 d6 d7 d8 d9 d10 d11 p0 p1 p2 p3 p4 p5 p6 p7 : Int) : inode_Get.l0 (k + 10) l 2 d0 d1 d2 d3 d4 d5 d6 d7 d8 d9 d10 d11 p0 p1 p2 p3 p4 p5 p6 p7 = inode_Get.l0 (k + 9) l 3 d0 d1 d2 d3 d4 d5 d6 d7 d8 d9 d10 d11 p0 p1 (wrap64 (cutG l 20 22)) p3 p4 p5 p6 p7 := by
  have e1 : wrap64 (16 + wrap64 (2 * 2)) = 20 := by unfold wrap64; omega
  have e2 : wrap64 (16 + wrap64 (wrap64 (2 + 1) * 2)) = 22 := by unfold wrap64; omega
  rw [inode_Get.l0, if_pos (by decide), e1, e2, if_pos (by decide), if_pos (by decide), if_pos (by omega), show ((22 : Int)).toNat = 22 from rfl, show ((20 : Int)).toNat = 20 from rfl, num_cut _ hb 20 22 (by omega) (by omega) (by omega), Option.bind_some, if_neg (by decide), if_neg (by decide), if_pos rfl, show wrap64 (2 + 1) = 3 from ww3]
theorem iget_l3 (k : Nat) {l : List Int} (hb : isBytes l) (hl : l.length = 64) (d0 d1 d2 d3 d4 d5 d6 d7 d8 d9 d10 d11 p0 p1 p2 p3 p4 p5 p6 p7 : Int) : inode_Get.l0 (k + 10) l 3 d0 d1 d2 d3 d4 d5 d6 d7 d8 d9 d10 d11 p0 p1 p2 p3 p4 p5 p6 p7 = inode_Get.l0 (k + 9) l 4 d0 d1 d2 d3 d4 d5 d6 d7 d8 d9 d10 d11 p0 p1 p2 (wrap64 (cutG l 22 24)) p4 p5 p6 p7 := by
  have e1 : wrap64 (16 + wrap64 (3 * 2)) = 22 := by unfold wrap64; omega
  have e2 : wrap64 (16 + wrap64 (wrap64 (3 + 1) * 2)) = 24 := by unfold wrap64; omega
  rw [inode_Get.l0, if_pos (by decide), e1, e2, if_pos (by decide), if_pos (by decide), if_pos (by omega), show ((24 : Int)).toNat = 24 from rfl, show ((22 : Int)).toNat = 22 from rfl, num_cut _ hb 22 24 (by omega) (by omega) (by omega), Option.bind_some, if_neg (by decide), if_neg (by decide), if_neg (by decide), if_pos rfl, show wrap64 (3 + 1) = 4 from ww4]
theorem iget_l4 (k : Nat) {l : List Int} (hb : isBytes l) (hl : l.length = 64) (d0 d1 d2 d3 d4 d5 d6 d7 d8 d9 d10 d11 p0 p1 p2 p3 p4 p5 p6 p7 : Int) : inode_Get.l0 (k + 10) l 4 d0 d1 d2 d3 d4 d5 d6 d7 d8 d9 d10 d11 p0 p1 p2 p3 p4 p5 p6 p7 = inode_Get.l0 (k + 9) l 5 d0 d1 d2 d3 d4 d5 d6 d7 d8 d9 d10 d11 p0 p1 p2 p3 (wrap64 (cutG l 24 26)) p5 p6 p7 := by
  have e1 : wrap64 (16 + wrap64 (4 * 2)) = 24 := by unfold wrap64; omega
  have e2 : wrap64 (16 + wrap64 (wrap64 (4 + 1) * 2)) = 26 := by unfold wrap64; omega
  rw [inode_Get.l0, if_pos (by decide), e1, e2, if_pos (by decide), if_pos (by decide), if_pos (by omega), show ((26 : Int)).toNat = 26 from rfl, show ((24 : Int)).toNat = 24 from rfl, num_cut _ hb 24 26 (by omega) (by omega) (by omega), Option.bind_some, if_neg (by decide), if_neg (by decide), if_neg (by decide), if_neg (by decide), if_pos rfl, show wrap64 (4 + 1) = 5 from ww5]
theorem iget_l5 (k : Nat) {l : List Int} (hb : isBytes l) (hl : l.length = 64) (d0 d1 d2 d3 d4 d5 d6 d7 d8 d9 d10 d11 p0 p1 p2 p3 p4 p5 p6 p7 : Int) : inode_Get.l0 (k + 10) l 5 d0 d1 d2 d3 d4 d5 d6 d7 d8 d9 d10 d11 p0 p1 p2 p3 p4 p5 p6 p7 = inode_Get.l0 (k + 9) l 6 d0 d1 d2 d3 d4 d5 d6 d7 d8 d9 d10 d11 p0 p1 p2 p3 p4 (wrap64 (cutG l 26 28)) p6 p7 := by
  have e1 : wrap64 (16 + wrap64 (5 * 2)) = 26 := by unfold wrap64; omega
  have e2 : wrap64 (16 + wrap64 (wrap64 (5 + 1) * 2)) = 28 := by unfold wrap64; omega
  rw [inode_Get.l0, if_pos (by decide), e1, e2, if_pos (by decide), if_pos (by decide), if_pos (by omega), show ((28 : Int)).toNat = 28 from rfl, show ((26 : Int)).toNat = 26 from rfl, num_cut _ hb 26 28 (by omega) (by omega) (by omega), Option.bind_some, if_neg (by decide), if_neg (by decide), if_neg (by decide), if_neg (by decide), if_neg (by decide), if_pos rfl, show wrap64 (5 + 1) = 6 from ww6]
theorem iget_l6 (k : Nat) {l : List Int} (hb : isBytes l) (hl : l.length = 64) (d0 d1 d2 d3 d4 d5 d6 d7 d8 d9 d10 d11 p0 p1 p2 p3 p4 p5 p6 p7 : Int) : inode_Get.l0 (k + 10) l 6 d0 d1 d2 d3 d4 d5 d6 d7 d8 d9 d10 d11 p0 p1 p2 p3 p4 p5 p6 p7 = inode_Get.l0 (k + 9) l 7 d0 d1 d2 d3 d4 d5 d6 d7 d8 d9 d10 d11 p0 p1 p2 p3 p4 p5 (wrap64 (cutG l 28 30)) p7 := by
  have e1 : wrap64 (16 + wrap64 (6 * 2)) = 28 := by unfold wrap64; omega
  have e2 : wrap64 (16 + wrap64 (wrap64 (6 + 1) * 2)) = 30 := by unfold wrap64; omega
  rw [inode_Get.l0, if_pos (by decide), e1, e2, if_pos (by decide), if_pos (by decide), if_pos (by omega), show ((30 : Int)).toNat = 30 from rfl, show ((28 : Int)).toNat = 28 from rfl, num_cut _ hb 28 30 (by omega) (by omega) (by omega), Option.bind_some, if_neg (by decide), if_neg (by decide), if_neg (by decide), if_neg (by decide), if_neg (by decide), if_neg (by decide), if_pos rfl, show wrap64 (6 + 1) = 7 from ww7]
theorem iget_l7 (k : Nat) {l : List Int} (hb : isBytes l) (hl : l.length = 64) (d0 d1 d2 d3 d4 d5 d6 d7 d8 d9 d10 d11 p0 p1 p2 p3 p4 p5 p6 p7 : Int) : inode_Get.l0 (k + 10) l 7 d0 d1 d2 d3 d4 d5 d6 d7 d8 d9 d10 d11 p0 p1 p2 p3 p4 p5 p6 p7 = inode_Get.l0 (k + 9) l 8 d0 d1 d2 d3 d4 d5 d6 d7 d8 d9 d10 d11 p0 p1 p2 p3 p4 p5 p6 (wrap64 (cutG l 30 32)) := by
  have e1 : wrap64 (16 + wrap64 (7 * 2)) = 30 := by unfold wrap64; omega
  have e2 : wrap64 (16 + wrap64 (wrap64 (7 + 1) * 2)) = 32 := by unfold wrap64; omega
  rw [inode_Get.l0, if_pos (by decide), e1, e2, if_pos (by decide), if_pos (by decide), if_pos (by omega), show ((32 : Int)).toNat = 32 from rfl, show ((30 : Int)).toNat = 30 from rfl, num_cut _ hb 30 32 (by omega) (by omega) (by omega), Option.bind_some, if_neg (by decide), if_neg (by decide), if_neg (by decide), if_neg (by decide), if_neg (by decide), if_neg (by decide), if_neg (by decide), if_pos rfl, show wrap64 (7 + 1) = 8 from ww8]
theorem rget_l0 (k : Nat) {l : List Int} (hb : isBytes l) (hl : l.length = 64) (d0 d1 d2 d3 d4 d5 d6 d7 d8 d9 d10 d11 : Int) : leveeref07_Get.l0 (k + 10) l 0 d0 d1 d2 d3 d4 d5 d6 d7 d8 d9 d10 d11 = leveeref07_Get.l0 (k + 9) l 1 d0 d1 d2 d3 (wrap64 (cutG l 16 18)) d5 d6 d7 d8 d9 d10 d11 := by
  have e1 : wrap64 (16 + wrap64 (2 * 0)) = 16 := by unfold wrap64; omega
  have e2 : wrap64 (18 + wrap64 (2 * 0)) = 18 := by unfold wrap64; omega
  rw [leveeref07_Get.l0, if_pos (by decide), e1, e2, if_pos (by decide), if_pos (by decide), if_pos (by omega), show ((18 : Int)).toNat = 18 from rfl, show ((16 : Int)).toNat = 16 from rfl, ref_cut _ hb 16 18 (by omega) (by omega) (by omega), Option.bind_some, if_pos rfl, show wrap64 (0 + 1) = 1 from ww1]
theorem rget_l1 (k : Nat) {l : List Int} (hb : isBytes l) (hl : l.length = 64) (d0 d1 d2 d3 d4 d5 d6 d7 d8 d9 d10 d11 : Int) : leveeref07_Get.l0 (k + 10) l 1 d0 d1 d2 d3 d4 d5 d6 d7 d8 d9 d10 d11 = leveeref07_Get.l0 (k + 9) l 2 d0 d1 d2 d3 d4 (wrap64 (cutG l 18 20)) d6 d7 d8 d9 d10 d11 := by
  have e1 : wrap64 (16 + wrap64 (2 * 1)) = 18 := by unfold wrap64; omega
  have e2 : wrap64 (18 + wrap64 (2 * 1)) = 20 := by unfold wrap64; omega
  rw [leveeref07_Get.l0, if_pos (by decide), e1, e2, if_pos (by decide), if_pos (by decide), if_pos (by omega), show ((20 : Int)).toNat = 20 from rfl, show ((18 : Int)).toNat = 18 from rfl, ref_cut _ hb 18 20 (by omega) (by omega) (by omega), Option.bind_some, if_neg (by decide), if_pos rfl, show wrap64 (1 + 1) = 2 from ww2]
theorem rget_l2 (k : Nat) {l : List Int} (hb : isBytes l) (hl : l.length = 64) (d0 d1 d2 d3 d4 d5 d6 d7 d8 d9 d10 d11 : Int) : leveeref07_Get.l0 (k + 10) l 2 d0 d1 d2 d3 d4 d5 d6 d7 d8 d9 d10 d11 = leveeref07_Get.l0 (k + 9) l 3 d0 d1 d2 d3 d4 d5 (wrap64 (cutG l 20 22)) d7 d8 d9 d10 d11 := by
  have e1 : wrap64 (16 + wrap64 (2 * 2)) = 20 := by unfold wrap64; omega
  have e2 : wrap64 (18 + wrap64 (2 * 2)) = 22 := by unfold wrap64; omega
  rw [leveeref07_Get.l0, if_pos (by decide), e1, e2, if_pos (by decide), if_pos (by decide), if_pos (by omega), show ((22 : Int)).toNat = 22 from rfl, show ((20 : Int)).toNat = 20 from rfl, ref_cut _ hb 20 22 (by omega) (by omega) (by omega), Option.bind_some, if_neg (by decide), if_neg (by decide), if_pos rfl, show wrap64 (2 + 1) = 3 from ww3]
theorem rget_l3 (k : Nat) {l : List Int} (hb : isBytes l) (hl : l.length = 64) (d0 d1 d2 d3 d4 d5 d6 d7 d8 d9 d10 d11 : Int) : leveeref07_Get.l0 (k + 10) l 3 d0 d1 d2 d3 d4 d5 d6 d7 d8 d9 d10 d11 = leveeref07_Get.l0 (k + 9) l 4 d0 d1 d2 d3 d4 d5 d6 (wrap64 (cutG l 22 24)) d8 d9 d10 d11 := by
  have e1 : wrap64 (16 + wrap64 (2 * 3)) = 22 := by unfold wrap64; omega
  have e2 : wrap64 (18 + wrap64 (2 * 3)) = 24 := by unfold wrap64; omega
  rw [leveeref07_Get.l0, if_pos (by decide), e1, e2, if_pos (by decide), if_pos (by decide), if_pos (by omega), show ((24 : Int)).toNat = 24 from rfl, show ((22 : Int)).toNat = 22 from rfl, ref_cut _ hb 22 24 (by omega) (by omega) (by omega), Option.bind_some, if_neg (by decide), if_neg (by decide), if_neg (by decide), if_pos rfl, show wrap64 (3 + 1) = 4 from ww4]
theorem rget_l4 (k : Nat) {l : List Int} (hb : isBytes l) (hl : l.length = 64) (d0 d1 d2 d3 d4 d5 d6 d7 d8 d9 d10 d11 : Int) : leveeref07_Get.l0 (k + 10) l 4 d0 d1 d2 d3 d4 d5 d6 d7 d8 d9 d10 d11 = leveeref07_Get.l0 (k + 9) l 5 d0 d1 d2 d3 d4 d5 d6 d7 (wrap64 (cutG l 24 26)) d9 d10 d11 := by
  have e1 : wrap64 (16 + wrap64 (2 * 4)) = 24 := by unfold wrap64; omega
  have e2 : wrap64 (18 + wrap64 (2 * 4)) = 26 := by unfold wrap64; omega
  rw [leveeref07_Get.l0, if_pos (by decide), e1, e2, if_pos (by decide), if_pos (by decide), if_pos (by omega), show ((26 : Int)).toNat = 26 from rfl, show ((24 : Int)).toNat = 24 from rfl, ref_cut _ hb 24 26 (by omega) (by omega) (by omega), Option.bind_some, if_neg (by decide), if_neg (by decide), if_neg (by decide), if_neg (by decide), if_pos rfl, show wrap64 (4 + 1) = 5 from ww5]
theorem rget_l5 (k : Nat) {l : List Int} (hb : isBytes l) (hl : l.length = 64) (d0 d1 d2 d3 d4 d5 d6 d7 d8 d9 d10 d11 : Int) : leveeref07_Get.l0 (k + 10) l 5 d0 d1 d2 d3 d4 d5 d6 d7 d8 d9 d10 d11 = leveeref07_Get.l0 (k + 9) l 6 d0 d1 d2 d3 d4 d5 d6 d7 d8 (wrap64 (cutG l 26 28)) d10 d11 := by
  have e1 : wrap64 (16 + wrap64 (2 * 5)) = 26 := by unfold wrap64; omega
  have e2 : wrap64 (18 + wrap64 (2 * 5)) = 28 := by unfold wrap64; omega
  rw [leveeref07_Get.l0, if_pos (by decide), e1, e2, if_pos (by decide), if_pos (by decide), if_pos (by omega), show ((28 : Int)).toNat = 28 from rfl, show ((26 : Int)).toNat = 26 from rfl, ref_cut _ hb 26 28 (by omega) (by omega) (by omega), Option.bind_some, if_neg (by decide), if_neg (by decide), if_neg (by decide), if_neg (by decide), if_neg (by decide), if_pos rfl, show wrap64 (5 + 1) = 6 from ww6]
theorem iget_l8 (k : Nat) {l : List Int} (hb : isBytes l) (hl : l.length = 64) (d0 d1 d2 d3 d4 d5 d6 d7 d8 d9 d10 d11 p0 p1 p2 p3 p4 p5 p6 p7 : Int) : inode_Get.l0 (k + 40) l 8 d0 d1 d2 d3 d4 d5 d6 d7 d8 d9 d10 d11 p0 p1 p2 p3 p4 p5 p6 p7 =
    some (if rd l 1 = 0 ∧ zeroS (l.drop 32) = true ∧ RI d0 d1 d2 d3 p0 p1 p2 p3 p4 p5 p6 p7 then (d0, d1, d2, d3, p0, p1, p2, p3, p4, p5, p6, p7, 0) else (0, 0, 0, 0, 0, 0, 0, 0, 0, 0, 0, 0, 8)) := by
  rw [inode_Get.l0, if_neg (by decide)]
  unfold inode_all.f
  rw [Option.bind_some, if_pos (by omega)]
  by_cases h1 : rd l 1 = 0
  · rw [if_pos h1, if_pos (by omega), Zero_eq _ _ (fun x hx => hb x (List.mem_of_mem_drop hx)) (by rw [List.length_drop]; omega) (by rw [List.length_drop]; omega), Option.bind_some]
    by_cases h2 : zeroS (l.drop 32) = true
    · rw [if_pos h2, show inode_Right.f (k + 39) d0 d1 d2 d3 p0 p1 p2 p3 p4 p5 p6 p7 = _ from iRight_eq (k + 30) d0 d1 d2 d3 p0 p1 p2 p3 p4 p5 p6 p7, Option.bind_some]
      by_cases h3 : RI d0 d1 d2 d3 p0 p1 p2 p3 p4 p5 p6 p7
      · rw [if_pos (decide_eq_true h3), if_pos ⟨h1, h2, h3⟩]
      · rw [if_neg (by simpa using h3), if_neg (fun h => h3 h.2.2)]
    · rw [if_neg h2, if_neg (fun h => h2 h.2.1)]
  · rw [if_neg h1, if_neg (fun h => h1 h.1)]
theorem iGet_eq (k : Nat) {l : List Int} (hb : isBytes l) (hl : l.length = 64) : inode_Get.f (k + 60) l =
    some (if rd l 1 = 0 ∧ zeroS (l.drop 32) = true ∧ RI (wrap64 (rd l 0)) (wrap64 (cutG l 2 4)) (wrap64 (cutG l 4 8)) (wrap64 (cutG l 8 16)) (wrap64 (cutG l 16 18)) (wrap64 (cutG l 18 20)) (wrap64 (cutG l 20 22)) (wrap64 (cutG l 22 24)) (wrap64 (cutG l 24 26)) (wrap64 (cutG l 26 28)) (wrap64 (cutG l 28 30)) (wrap64 (cutG l 30 32)) then ((wrap64 (rd l 0)), (wrap64 (cutG l 2 4)), (wrap64 (cutG l 4 8)), (wrap64 (cutG l 8 16)), (wrap64 (cutG l 16 18)), (wrap64 (cutG l 18 20)), (wrap64 (cutG l 20 22)), (wrap64 (cutG l 22 24)), (wrap64 (cutG l 24 26)), (wrap64 (cutG l 26 28)), (wrap64 (cutG l 28 30)), (wrap64 (cutG l 30 32)), 0) else (0, 0, 0, 0, 0, 0, 0, 0, 0, 0, 0, 0, 8)) := by
  unfold inode_Get.f
  rw [if_pos (by omega), if_pos (by omega), if_pos (by decide), if_pos (by omega), num_cut _ hb 2 4 (by omega) (by omega) (by omega), Option.bind_some, if_pos (by decide), if_pos (by omega), num_cut _ hb 4 8 (by omega) (by omega) (by omega), Option.bind_some, if_pos (by decide), if_pos (by omega), num_cut _ hb 8 16 (by omega) (by omega) (by omega), Option.bind_some]
  rw [show k + 60 = (k + 50) + 10 from rfl, iget_l0 _ hb hl, show k + 50 + 9 = (k + 49) + 10 from rfl, iget_l1 _ hb hl, show k + 49 + 9 = (k + 48) + 10 from rfl, iget_l2 _ hb hl, show k + 48 + 9 = (k + 47) + 10 from rfl, iget_l3 _ hb hl, show k + 47 + 9 = (k + 46) + 10 from rfl, iget_l4 _ hb hl, show k + 46 + 9 = (k + 45) + 10 from rfl, iget_l5 _ hb hl, show k + 45 + 9 = (k + 44) + 10 from rfl, iget_l6 _ hb hl, show k + 44 + 9 = (k + 43) + 10 from rfl, iget_l7 _ hb hl, show k + 43 + 9 = (k + 12) + 40 from rfl, iget_l8 _ hb hl]
theorem iGet_no (k : Nat) {l : List Int} (hl : l.length ≠ 64) : inode_Get.f k l = some (0, 0, 0, 0, 0, 0, 0, 0, 0, 0, 0, 0, 4) := by
  unfold inode_Get.f
  rw [if_neg (by omega)]
theorem isBytes_append {a b : List Int} (ha : isBytes a) (hb : isBytes b) : isBytes (a ++ b) := fun x hx => (List.mem_append.mp hx).elim (ha x) (hb x)
theorem bytesI_bytes (a0 a1 a2 a3 a4 a5 a6 a7 a8 a9 a10 a11 : Int) : isBytes (bytesI a0 a1 a2 a3 a4 a5 a6 a7 a8 a9 a10 a11) := by
  unfold bytesI
  repeat' refine isBytes_append ?_ ?_
  all_goals first | exact putS_bytes _ _ | skip
  · intro x hx
    simp only [List.mem_cons, List.not_mem_nil, or_false] at hx
    rcases hx with rfl | rfl <;> omega
  · intro x hx
    rw [(List.mem_replicate.mp hx).2]
    omega
theorem rget_l6 (k : Nat) {l : List Int} (hb : isBytes l) (hl : l.length = 64) (d0 d1 d2 d3 d4 d5 d6 d7 d8 d9 d10 d11 : Int) : leveeref07_Get.l0 (k + 41) l 6 d0 d1 d2 d3 d4 d5 d6 d7 d8 d9 d10 d11 =
    some (if RI d0 d1 d2 d3 d4 d5 d6 d7 d8 d9 (wrap64 (cutG l 28 30)) (wrap64 (cutG l 30 32)) ∧ bytesI d0 d1 d2 d3 d4 d5 d6 d7 d8 d9 (wrap64 (cutG l 28 30)) (wrap64 (cutG l 30 32)) = l then (d0, d1, d2, d3, d4, d5, d6, d7, d8, d9, wrap64 (cutG l 28 30), wrap64 (cutG l 30 32), 0) else (0, 0, 0, 0, 0, 0, 0, 0, 0, 0, 0, 0, 8)) := by
  rw [leveeref07_Get.l0, if_neg (by decide), if_pos (by decide), if_pos (by omega), ref_cut _ hb 28 30 (by omega) (by omega) (by omega), Option.bind_some, if_pos (by decide), if_pos (by omega), ref_cut _ hb 30 32 (by omega) (by omega) (by omega), Option.bind_some, rPut_eq k, Option.bind_some]
  by_cases h : RI d0 d1 d2 d3 d4 d5 d6 d7 d8 d9 (wrap64 (cutG l 28 30)) (wrap64 (cutG l 30 32))
  · rw [if_pos h]
    dsimp only
    rw [if_pos rfl]
    by_cases h2 : bytesI d0 d1 d2 d3 d4 d5 d6 d7 d8 d9 (wrap64 (cutG l 28 30)) (wrap64 (cutG l 30 32)) = l
    · rw [if_pos ((str_inj (bytesI_bytes _ _ _ _ _ _ _ _ _ _ _ _) hb).mpr h2), if_pos ⟨h, h2⟩]
    · rw [if_neg (fun h3 => h2 ((str_inj (bytesI_bytes _ _ _ _ _ _ _ _ _ _ _ _) hb).mp h3)), if_neg (fun h3 => h2 h3.2)]
  · rw [if_neg h]
    dsimp only
    rw [if_neg (by decide), if_neg (fun h3 => h h3.1)]
theorem rGet_eq (k : Nat) {l : List Int} (hb : isBytes l) (hl : l.length = 64) : leveeref07_Get.f (k + 60) l =
    some (if RI (wrap64 (rd l 0)) (wrap64 (cutG l 2 4)) (wrap64 (cutG l 4 8)) (wrap64 (cutG l 8 16)) (wrap64 (cutG l 16 18)) (wrap64 (cutG l 18 20)) (wrap64 (cutG l 20 22)) (wrap64 (cutG l 22 24)) (wrap64 (cutG l 24 26)) (wrap64 (cutG l 26 28)) (wrap64 (cutG l 28 30)) (wrap64 (cutG l 30 32)) ∧ bytesI (wrap64 (rd l 0)) (wrap64 (cutG l 2 4)) (wrap64 (cutG l 4 8)) (wrap64 (cutG l 8 16)) (wrap64 (cutG l 16 18)) (wrap64 (cutG l 18 20)) (wrap64 (cutG l 20 22)) (wrap64 (cutG l 22 24)) (wrap64 (cutG l 24 26)) (wrap64 (cutG l 26 28)) (wrap64 (cutG l 28 30)) (wrap64 (cutG l 30 32)) = l then ((wrap64 (rd l 0)), (wrap64 (cutG l 2 4)), (wrap64 (cutG l 4 8)), (wrap64 (cutG l 8 16)), (wrap64 (cutG l 16 18)), (wrap64 (cutG l 18 20)), (wrap64 (cutG l 20 22)), (wrap64 (cutG l 22 24)), (wrap64 (cutG l 24 26)), (wrap64 (cutG l 26 28)), (wrap64 (cutG l 28 30)), (wrap64 (cutG l 30 32)), 0) else (0, 0, 0, 0, 0, 0, 0, 0, 0, 0, 0, 0, 8)) := by
  unfold leveeref07_Get.f
  rw [if_pos (by omega), if_pos (by omega), if_pos (by decide), if_pos (by omega), ref_cut _ hb 2 4 (by omega) (by omega) (by omega), Option.bind_some, if_pos (by decide), if_pos (by omega), ref_cut _ hb 4 8 (by omega) (by omega) (by omega), Option.bind_some, if_pos (by decide), if_pos (by omega), ref_cut _ hb 8 16 (by omega) (by omega) (by omega), Option.bind_some]
  rw [show k + 60 = (k + 50) + 10 from rfl, rget_l0 _ hb hl, show k + 50 + 9 = (k + 49) + 10 from rfl, rget_l1 _ hb hl, show k + 49 + 9 = (k + 48) + 10 from rfl, rget_l2 _ hb hl, show k + 48 + 9 = (k + 47) + 10 from rfl, rget_l3 _ hb hl, show k + 47 + 9 = (k + 46) + 10 from rfl, rget_l4 _ hb hl, show k + 46 + 9 = (k + 45) + 10 from rfl, rget_l5 _ hb hl, show k + 45 + 9 = (k + 13) + 41 from rfl, rget_l6 _ hb hl]
theorem rGet_no (k : Nat) {l : List Int} (hl : l.length ≠ 64) : leveeref07_Get.f k l = some (0, 0, 0, 0, 0, 0, 0, 0, 0, 0, 0, 0, 4) := by
  unfold leveeref07_Get.f
  rw [if_neg (by omega)]
theorem uw {x : Int} (h0 : 0 ≤ x) (h1 : x < 18446744073709551616) : IntKind.u64.wrap (wrap64 x) = x := by
  unfold IntKind.wrap wrap64
  simp [IntKind.bits, IntKind.signed]
  omega
theorem put_cut {l : List Int} (hb : isBytes l) (a b : Nat) (h : b ≤ l.length) (hab : b - a ≤ 8) : putS (IntKind.u64.wrap (wrap64 (cutG l a b))) (b - a) = (l.take b).drop a := by
  have hr := cut_range hb a b h
  have h8 : (256 : Int) ^ (b - a) ≤ 18446744073709551616 := by
    have h2 := Nat.pow_le_pow_right (n := 256) (by omega) hab
    have h3 : (256 : Int) ^ (b - a) = ((256 ^ (b - a) : Nat) : Int) := by simp
    rw [h3]
    omega
  rw [uw hr.1 (by omega)]
  have := putS_getS _ (cut_bytes hb a b)
  rwa [cut_length h] at this
theorem take_cut {l : List Int} (a b : Nat) (h : a ≤ b) : l.take a ++ (l.take b).drop a = l.take b := by
  have h2 := List.take_append_drop a (l.take b)
  rwa [List.take_take, Nat.min_eq_left h] at h2
theorem parts_eq (l : List Int) : l = l.take 2 ++ (l.take 4).drop 2 ++ (l.take 8).drop 4 ++ (l.take 16).drop 8 ++ (l.take 18).drop 16 ++ (l.take 20).drop 18 ++ (l.take 22).drop 20 ++ (l.take 24).drop 22 ++ (l.take 26).drop 24 ++ (l.take 28).drop 26 ++ (l.take 30).drop 28 ++ (l.take 32).drop 30 ++ l.drop 32 := by
  simp only [take_cut 2 4 (by omega), take_cut 4 8 (by omega), take_cut 8 16 (by omega), take_cut 16 18 (by omega), take_cut 18 20 (by omega), take_cut 20 22 (by omega), take_cut 22 24 (by omega), take_cut 24 26 (by omega), take_cut 26 28 (by omega), take_cut 28 30 (by omega), take_cut 30 32 (by omega), List.take_append_drop]
theorem bytes_D {l : List Int} (hb : isBytes l) (hl : l.length = 64) : bytesI (wrap64 (rd l 0)) (wrap64 (cutG l 2 4)) (wrap64 (cutG l 4 8)) (wrap64 (cutG l 8 16)) (wrap64 (cutG l 16 18)) (wrap64 (cutG l 18 20)) (wrap64 (cutG l 20 22)) (wrap64 (cutG l 22 24)) (wrap64 (cutG l 24 26)) (wrap64 (cutG l 26 28)) (wrap64 (cutG l 28 30)) (wrap64 (cutG l 30 32)) = [rd l 0, 0] ++ (l.take 4).drop 2 ++ (l.take 8).drop 4 ++ (l.take 16).drop 8 ++ (l.take 18).drop 16 ++ (l.take 20).drop 18 ++ (l.take 22).drop 20 ++ (l.take 24).drop 22 ++ (l.take 26).drop 24 ++ (l.take 28).drop 26 ++ (l.take 30).drop 28 ++ (l.take 32).drop 30 ++ List.replicate 32 0 := by
  have h0 : wrap64 (rd l 0) % 256 = rd l 0 := by
    have h1 : rd l 0 = l[0] := rd_eq l 0 (by omega)
    have h2 := hb l[0] (List.getElem_mem _)
    rw [h1, w64 (by omega) (by omega)]
    omega
  unfold bytesI
  rw [h0]
  rw [show putS (IntKind.u64.wrap (wrap64 (cutG l 2 4))) 2 = (l.take 4).drop 2 from put_cut hb 2 4 (by omega) (by omega), show putS (IntKind.u64.wrap (wrap64 (cutG l 4 8))) 4 = (l.take 8).drop 4 from put_cut hb 4 8 (by omega) (by omega), show putS (IntKind.u64.wrap (wrap64 (cutG l 8 16))) 8 = (l.take 16).drop 8 from put_cut hb 8 16 (by omega) (by omega), show putS (IntKind.u64.wrap (wrap64 (cutG l 16 18))) 2 = (l.take 18).drop 16 from put_cut hb 16 18 (by omega) (by omega), show putS (IntKind.u64.wrap (wrap64 (cutG l 18 20))) 2 = (l.take 20).drop 18 from put_cut hb 18 20 (by omega) (by omega), show putS (IntKind.u64.wrap (wrap64 (cutG l 20 22))) 2 = (l.take 22).drop 20 from put_cut hb 20 22 (by omega) (by omega), show putS (IntKind.u64.wrap (wrap64 (cutG l 22 24))) 2 = (l.take 24).drop 22 from put_cut hb 22 24 (by omega) (by omega), show putS (IntKind.u64.wrap (wrap64 (cutG l 24 26))) 2 = (l.take 26).drop 24 from put_cut hb 24 26 (by omega) (by omega), show putS (IntKind.u64.wrap (wrap64 (cutG l 26 28))) 2 = (l.take 28).drop 26 from put_cut hb 26 28 (by omega) (by omega), show putS (IntKind.u64.wrap (wrap64 (cutG l 28 30))) 2 = (l.take 30).drop 28 from put_cut hb 28 30 (by omega) (by omega), show putS (IntKind.u64.wrap (wrap64 (cutG l 30 32))) 2 = (l.take 32).drop 30 from put_cut hb 30 32 (by omega) (by omega)]
theorem take_two {l : List Int} (hl : l.length = 64) : l.take 2 = [rd l 0, rd l 1] := by
  rw [show rd l 0 = l[0] from rd_eq l 0 (by omega), show rd l 1 = l[1] from rd_eq l 1 (by omega)]
  match l, hl with
  | a :: b :: l, _ => rfl
theorem zeroS_rep : ∀ (m : List Int), zeroS m = true → m = List.replicate m.length 0
  | [], _ => rfl
  | a :: m, h => by
    simp only [zeroS, List.all_cons, Bool.and_eq_true, beq_iff_eq] at h
    rw [List.length_cons, List.replicate_succ, h.1]
    congr 1
    exact zeroS_rep m h.2
theorem core {l : List Int} (hb : isBytes l) (hl : l.length = 64) : (rd l 1 = 0 ∧ zeroS (l.drop 32) = true) ↔ bytesI (wrap64 (rd l 0)) (wrap64 (cutG l 2 4)) (wrap64 (cutG l 4 8)) (wrap64 (cutG l 8 16)) (wrap64 (cutG l 16 18)) (wrap64 (cutG l 18 20)) (wrap64 (cutG l 20 22)) (wrap64 (cutG l 22 24)) (wrap64 (cutG l 24 26)) (wrap64 (cutG l 26 28)) (wrap64 (cutG l 28 30)) (wrap64 (cutG l 30 32)) = l := by
  constructor
  · rintro ⟨h1, h2⟩
    rw [bytes_D hb hl]
    have h3 := zeroS_rep _ h2
    rw [List.length_drop, hl] at h3
    have h4 := parts_eq l
    rw [take_two hl, h1, h3] at h4
    exact h4.symm
  · intro h
    constructor
    · rw [← h]; rfl
    · rw [← h]; rfl
def gZ (e : Int) : Int × Int × Int × Int × Int × Int × Int × Int × Int × Int × Int × Int × Int := (0, 0, 0, 0, 0, 0, 0, 0, 0, 0, 0, 0, e)
theorem get_same (k : Nat) {l : List Int} (hb : isBytes l) : ∃ g, inode_Get.f (k + 60) l = some g ∧ leveeref07_Get.f (k + 60) l = some g := by
  by_cases hl : l.length = 64
  · refine ⟨_, iGet_eq k hb hl, ?_⟩
    rw [rGet_eq k hb hl]
    by_cases h : RI (wrap64 (rd l 0)) (wrap64 (cutG l 2 4)) (wrap64 (cutG l 4 8)) (wrap64 (cutG l 8 16)) (wrap64 (cutG l 16 18)) (wrap64 (cutG l 18 20)) (wrap64 (cutG l 20 22)) (wrap64 (cutG l 22 24)) (wrap64 (cutG l 24 26)) (wrap64 (cutG l 26 28)) (wrap64 (cutG l 28 30)) (wrap64 (cutG l 30 32)) ∧ bytesI (wrap64 (rd l 0)) (wrap64 (cutG l 2 4)) (wrap64 (cutG l 4 8)) (wrap64 (cutG l 8 16)) (wrap64 (cutG l 16 18)) (wrap64 (cutG l 18 20)) (wrap64 (cutG l 20 22)) (wrap64 (cutG l 22 24)) (wrap64 (cutG l 24 26)) (wrap64 (cutG l 26 28)) (wrap64 (cutG l 28 30)) (wrap64 (cutG l 30 32)) = l
    · have h2 := (core hb hl).mpr h.2
      rw [if_pos h, if_pos ⟨h2.1, h2.2, h.1⟩]
    · rw [if_neg h, if_neg (fun h2 => h ⟨h2.2.2, (core hb hl).mp ⟨h2.1, h2.2.1⟩⟩)]
  · exact ⟨_, iGet_no _ hl, rGet_no _ hl⟩
theorem back_1 {x : Int} {m : Nat} (h0 : 0 ≤ x) (h1 : x < 256 ^ m) (h2 : x < 9223372036854775808) : wrap64 (getS (putS (IntKind.u64.wrap x) m)) = x := by
  rw [getS_putS, u64_wrap h0 (by omega), Int.emod_eq_of_lt h0 h1, w64 (by omega) (by omega)]
theorem back_2 (a0 a1 a2 a3 a4 a5 a6 a7 a8 a9 a10 a11 : Int) : cutG (bytesI a0 a1 a2 a3 a4 a5 a6 a7 a8 a9 a10 a11) 2 4 = getS (putS (IntKind.u64.wrap a1) 2) := by rfl
theorem back_4 (a0 a1 a2 a3 a4 a5 a6 a7 a8 a9 a10 a11 : Int) : cutG (bytesI a0 a1 a2 a3 a4 a5 a6 a7 a8 a9 a10 a11) 4 8 = getS (putS (IntKind.u64.wrap a2) 4) := by rfl
theorem back_8 (a0 a1 a2 a3 a4 a5 a6 a7 a8 a9 a10 a11 : Int) : cutG (bytesI a0 a1 a2 a3 a4 a5 a6 a7 a8 a9 a10 a11) 8 16 = getS (putS (IntKind.u64.wrap a3) 8) := by rfl
theorem back_16 (a0 a1 a2 a3 a4 a5 a6 a7 a8 a9 a10 a11 : Int) : cutG (bytesI a0 a1 a2 a3 a4 a5 a6 a7 a8 a9 a10 a11) 16 18 = getS (putS (IntKind.u64.wrap a4) 2) := by rfl
theorem back_18 (a0 a1 a2 a3 a4 a5 a6 a7 a8 a9 a10 a11 : Int) : cutG (bytesI a0 a1 a2 a3 a4 a5 a6 a7 a8 a9 a10 a11) 18 20 = getS (putS (IntKind.u64.wrap a5) 2) := by rfl
theorem back_20 (a0 a1 a2 a3 a4 a5 a6 a7 a8 a9 a10 a11 : Int) : cutG (bytesI a0 a1 a2 a3 a4 a5 a6 a7 a8 a9 a10 a11) 20 22 = getS (putS (IntKind.u64.wrap a6) 2) := by rfl
theorem back_22 (a0 a1 a2 a3 a4 a5 a6 a7 a8 a9 a10 a11 : Int) : cutG (bytesI a0 a1 a2 a3 a4 a5 a6 a7 a8 a9 a10 a11) 22 24 = getS (putS (IntKind.u64.wrap a7) 2) := by rfl
theorem back_24 (a0 a1 a2 a3 a4 a5 a6 a7 a8 a9 a10 a11 : Int) : cutG (bytesI a0 a1 a2 a3 a4 a5 a6 a7 a8 a9 a10 a11) 24 26 = getS (putS (IntKind.u64.wrap a8) 2) := by rfl
theorem back_26 (a0 a1 a2 a3 a4 a5 a6 a7 a8 a9 a10 a11 : Int) : cutG (bytesI a0 a1 a2 a3 a4 a5 a6 a7 a8 a9 a10 a11) 26 28 = getS (putS (IntKind.u64.wrap a9) 2) := by rfl
theorem back_28 (a0 a1 a2 a3 a4 a5 a6 a7 a8 a9 a10 a11 : Int) : cutG (bytesI a0 a1 a2 a3 a4 a5 a6 a7 a8 a9 a10 a11) 28 30 = getS (putS (IntKind.u64.wrap a10) 2) := by rfl
theorem back_30 (a0 a1 a2 a3 a4 a5 a6 a7 a8 a9 a10 a11 : Int) : cutG (bytesI a0 a1 a2 a3 a4 a5 a6 a7 a8 a9 a10 a11) 30 32 = getS (putS (IntKind.u64.wrap a11) 2) := by rfl
theorem iGet_back (k : Nat) {a0 a1 a2 a3 a4 a5 a6 a7 a8 a9 a10 a11 : Int} (h : RI a0 a1 a2 a3 a4 a5 a6 a7 a8 a9 a10 a11) : inode_Get.f (k + 60) (bytesI a0 a1 a2 a3 a4 a5 a6 a7 a8 a9 a10 a11) = some (a0, a1, a2, a3, a4, a5, a6, a7, a8, a9, a10, a11, 0) := by
  have h0 : rd (bytesI a0 a1 a2 a3 a4 a5 a6 a7 a8 a9 a10 a11) 0 = a0 := by
    rw [show rd (bytesI a0 a1 a2 a3 a4 a5 a6 a7 a8 a9 a10 a11) 0 = a0 % 256 from rfl]
    unfold RI at h
    omega
  have h' := h
  unfold RI at h'
  rw [iGet_eq k (bytesI_bytes a0 a1 a2 a3 a4 a5 a6 a7 a8 a9 a10 a11) (bytesI_length a0 a1 a2 a3 a4 a5 a6 a7 a8 a9 a10 a11), h0, back_2, back_4, back_8, back_16, back_18, back_20, back_22, back_24, back_26, back_28, back_30,
    back_1 (x := a1) (m := 2) (by omega) (by omega) (by omega), back_1 (x := a2) (m := 4) (by omega) (by omega) (by omega), back_1 (x := a3) (m := 8) (by omega) (by omega) (by omega), back_1 (x := a4) (m := 2) (by omega) (by omega) (by omega), back_1 (x := a5) (m := 2) (by omega) (by omega) (by omega), back_1 (x := a6) (m := 2) (by omega) (by omega) (by omega), back_1 (x := a7) (m := 2) (by omega) (by omega) (by omega), back_1 (x := a8) (m := 2) (by omega) (by omega) (by omega), back_1 (x := a9) (m := 2) (by omega) (by omega) (by omega), back_1 (x := a10) (m := 2) (by omega) (by omega) (by omega), back_1 (x := a11) (m := 2) (by omega) (by omega) (by omega), w64 (x := a0) (by omega) (by omega)]
  rw [if_pos ⟨rfl, rfl, h⟩]
end Go.Proofs.Ythcndfnmgggblaa.Inode
