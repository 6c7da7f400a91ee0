/-
Plain laws on tables of inodes.
Conditions: none.
-/
import Derived.Test.YthcndfnmgggblaaInode
import Derived.Test.YthcndfnmgggblaaPx28
import Derived.Test.YthcndfnmgggblaaPx29
import Derived.Test.YthcndfnmgggblaaPx13
import Derived.Test.YthcndfnmgggblaaPx15
import Derived.Test.YthcndfnmgggblaaPx16
import Derived.Test.YthcndfnmgggblaaInodeKnown
namespace Go.Proofs.Ythcndfnmgggblaa.Inode
set_option linter.unusedSimpArgs false
set_option linter.unusedVariables false
open Go.RowKit Go.Proofs.YthcndfnmgggblaaW.PrintWords Go.Proofs.YthcndfnmgggblaaW.PrintLast Go.Proofs.YthcndfnmgggblaaW.PrintMore Go.Proofs.Ythcndfnmgggblaa.P Go.Proofs.Ythcndfnmgggblaa.Num
theorem Spoil_loop : ∀ (d i k : Nat) (l : List Int), i + d = l.length → d < k → l.length ≤ 140737488355328 → ∃ r, leveeref01_Spoil.l0 k l (i : Int) = some r := by
  intro d
  induction d with
  | zero =>
    intro i k l hi hk hl
    obtain ⟨k, rfl⟩ : ∃ m, k = m + 1 := ⟨k - 1, by omega⟩
    simp only [leveeref01_Spoil.l0]
    rw [if_neg (by omega)]
    exact ⟨_, rfl⟩
  | succ d ih =>
    intro i k l hi hk hl
    obtain ⟨k, rfl⟩ : ∃ m, k = m + 1 := ⟨k - 1, by omega⟩
    simp only [leveeref01_Spoil.l0]
    rw [if_pos (by omega), if_pos (by omega), w64 (by omega) (by omega)]
    exact ih (i + 1) k _ (by rw [List.length_set]; omega) (by omega) (by rw [List.length_set]; exact hl)
theorem Spoil_eq (l : List Int) (hl : l.length ≤ 140737488355328) (k : Nat) (hk : l.length < k) : ∃ r, leveeref01_Spoil.f k l = some r := Spoil_loop l.length 0 k l (by omega) hk hl
theorem read_same (k : Nat) {l : List Int} (hb : isBytes l) (p : Int) (hp : (Lit.int .i64 p).wf = true) : ∃ g, inode_Read.f (k + 60) l p = some g ∧ leveeref07_Read.f (k + 60) l p = some g := by
  by_cases hl : (l.length : Int) = 256
  · by_cases h0 : p < 0
    · refine ⟨(0, 0, 0, 0, 0, 0, 0, 0, 0, 0, 0, 0, 3), ?_, ?_⟩
      · unfold inode_Read.f inode_may.f
        rw [if_pos hl, if_pos h0, Option.bind_some, if_neg (by decide)]
      · unfold leveeref07_Read.f
        rw [if_pos hl, if_pos h0]
    · by_cases h3 : p ≥ 4
      · refine ⟨(0, 0, 0, 0, 0, 0, 0, 0, 0, 0, 0, 0, 3), ?_, ?_⟩
        · unfold inode_Read.f inode_may.f
          rw [if_pos hl, if_neg h0, if_pos h3, Option.bind_some, if_neg (by decide)]
        · unfold leveeref07_Read.f
          rw [if_pos hl, if_neg h0, if_pos (by omega)]
      · obtain ⟨i, rfl⟩ := Int.eq_ofNat_of_zero_le (show 0 ≤ p by omega)
        have e1 : wrap64 ((i : Int) * 64) = ((64 * i : Nat) : Int) := by unfold wrap64; omega
        have e2 : wrap64 (wrap64 ((i : Int) + 1) * 64) = ((64 * i + 64 : Nat) : Int) := by unfold wrap64; omega
        have e3 : wrap64 (64 * (i : Int)) = ((64 * i : Nat) : Int) := by unfold wrap64; omega
        have e4 : wrap64 (((64 * i : Nat) : Int) + 64) = ((64 * i + 64 : Nat) : Int) := by unfold wrap64; omega
        obtain ⟨g, h1, h2⟩ := get_same k (cut_bytes hb (64 * i) (64 * i + 64))
        refine ⟨g, ?_, ?_⟩
        · unfold inode_Read.f inode_may.f
          rw [if_pos hl, if_neg h0, if_neg h3, Option.bind_some, if_pos rfl, e1, e2]
          simp only [Int.toNat_natCast]
          rw [if_pos (by omega), if_pos (by omega), if_pos (by omega), h1, Option.bind_some]
        · unfold leveeref07_Read.f
          rw [if_pos hl, if_neg h0, if_neg (by omega), e3, e4]
          simp only [Int.toNat_natCast]
          rw [if_pos (by omega), if_pos (by omega), if_pos (by omega), h2, Option.bind_some]
  · refine ⟨(0, 0, 0, 0, 0, 0, 0, 0, 0, 0, 0, 0, 4), ?_, ?_⟩
    · unfold inode_Read.f inode_may.f
      rw [if_neg hl, Option.bind_some, if_neg (by decide)]
    · unfold leveeref07_Read.f
      rw [if_neg hl]
theorem lay_same (k : Nat) {l : List Int} (p : Int) (a0 a1 a2 a3 a4 a5 a6 a7 a8 a9 a10 a11 : Int) : ∃ x, inode_Lay.f (k + 60) l p a0 a1 a2 a3 a4 a5 a6 a7 a8 a9 a10 a11 = some x ∧ leveeref07_Lay.f (k + 60) l p a0 a1 a2 a3 a4 a5 a6 a7 a8 a9 a10 a11 = some x ∧ (x.2 = 0 → RI a0 a1 a2 a3 a4 a5 a6 a7 a8 a9 a10 a11 ∧ l.length = 256 ∧ ∃ i : Nat, p = i ∧ i < 4 ∧ x.1 = l.take (64 * i) ++ (bytesI a0 a1 a2 a3 a4 a5 a6 a7 a8 a9 a10 a11 ++ l.drop (64 * i + 64))) := by
  have hj1 : leveeref07_Lay.j0 (k + 60) l p true a0 a1 a2 a3 a4 a5 a6 a7 a8 a9 a10 a11 = some ([], 3) := by rw [leveeref07_Lay.j0, if_pos rfl]
  by_cases hl : (l.length : Int) = 256
  · by_cases h0 : p < 0
    · refine ⟨([], 3), ?_, ?_, fun h => absurd h (show ¬ (3 : Int) = 0 by decide)⟩
      · unfold inode_Lay.f inode_may.f
        rw [if_pos hl, if_pos h0, Option.bind_some, if_neg (by decide)]
      · unfold leveeref07_Lay.f
        rw [if_pos hl, if_pos h0, hj1]
    · by_cases h3 : p ≥ 4
      · refine ⟨([], 3), ?_, ?_, fun h => absurd h (show ¬ (3 : Int) = 0 by decide)⟩
        · unfold inode_Lay.f inode_may.f
          rw [if_pos hl, if_neg h0, if_pos h3, Option.bind_some, if_neg (by decide)]
        · unfold leveeref07_Lay.f
          rw [if_pos hl, if_neg h0, decide_eq_true (show p > 3 by omega), hj1]
      · by_cases hR : RI a0 a1 a2 a3 a4 a5 a6 a7 a8 a9 a10 a11
        · obtain ⟨i, rfl⟩ := Int.eq_ofNat_of_zero_le (show 0 ≤ p by omega)
          have e1 : wrap64 ((i : Int) * 64) = ((64 * i : Nat) : Int) := by unfold wrap64; omega
          have e3 : wrap64 (64 * (i : Int)) = ((64 * i : Nat) : Int) := by unfold wrap64; omega
          have hbl := bytesI_length a0 a1 a2 a3 a4 a5 a6 a7 a8 a9 a10 a11
          have hlay : num_Lay.f l (((64 * i : Nat) : Int)) (bytesI a0 a1 a2 a3 a4 a5 a6 a7 a8 a9 a10 a11) = some (l.take (64 * i) ++ (bytesI a0 a1 a2 a3 a4 a5 a6 a7 a8 a9 a10 a11 ++ l.drop (64 * i + 64)), 0) := by
            unfold num_Lay.f
            rw [if_pos ⟨by omega, by omega⟩, if_pos ⟨by omega, by omega, by omega⟩, Int.toNat_natCast, hbl]
          have e5 : wrap64 ((l.length : Int) - ((64 * i : Nat) : Int)) = (l.length : Int) - ((64 * i : Nat) : Int) := w64 (by omega) (by omega)
          have e6 : wrap64 (((64 * i : Nat) : Int) + ((bytesI a0 a1 a2 a3 a4 a5 a6 a7 a8 a9 a10 a11).length : Int)) = ((64 * i + 64 : Nat) : Int) := by rw [w64 (by omega) (by omega)]; omega
          have ht : (l.take (64 * i)).length ≤ 256 := by rw [List.length_take]; omega
          have hrl : leveeref01_Lay.f l (((64 * i : Nat) : Int)) (bytesI a0 a1 a2 a3 a4 a5 a6 a7 a8 a9 a10 a11) = some (l.take (64 * i) ++ (bytesI a0 a1 a2 a3 a4 a5 a6 a7 a8 a9 a10 a11 ++ l.drop (64 * i + 64)), 0) := by
            unfold leveeref01_Lay.f
            rw [if_neg (by omega), if_neg (by omega), e5, if_neg (by omega), if_pos (by omega), if_pos (by omega), Int.toNat_natCast, if_pos (by rw [List.length_nil]; omega), Option.bind_some, if_pos (by rw [List.nil_append]; omega), Option.bind_some, e6, if_pos (by omega), if_pos (by omega), Int.toNat_natCast, if_pos (by rw [List.length_append, List.nil_append, List.length_drop]; omega), List.nil_append, List.append_assoc]
          refine ⟨(l.take (64 * i) ++ (bytesI a0 a1 a2 a3 a4 a5 a6 a7 a8 a9 a10 a11 ++ l.drop (64 * i + 64)), 0), ?_, ?_, fun _ => ⟨hR, by omega, i, rfl, by omega, rfl⟩⟩
          · unfold inode_Lay.f inode_may.f
            rw [if_pos hl, if_neg h0, if_neg h3, Option.bind_some, if_pos rfl, show inode_Put.f (k + 60) a0 a1 a2 a3 a4 a5 a6 a7 a8 a9 a10 a11 = _ from iPut_eq (k + 51) a0 a1 a2 a3 a4 a5 a6 a7 a8 a9 a10 a11, Option.bind_some, if_pos hR]
            dsimp only
            rw [if_pos rfl, e1, hlay, Option.bind_some]
          · unfold leveeref07_Lay.f
            rw [if_pos hl, if_neg h0, decide_eq_false (show ¬ (i : Int) > 3 by omega), leveeref07_Lay.j0, if_neg (by decide), show leveeref07_Put.f (k + 59) a0 a1 a2 a3 a4 a5 a6 a7 a8 a9 a10 a11 = _ from rPut_eq (k + 19) a0 a1 a2 a3 a4 a5 a6 a7 a8 a9 a10 a11, Option.bind_some, if_pos hR]
            dsimp only
            rw [if_pos rfl, e3, hrl, Option.bind_some]
        · refine ⟨([], 1), ?_, ?_, fun h => absurd h (show ¬ (1 : Int) = 0 by decide)⟩
          · unfold inode_Lay.f inode_may.f
            rw [if_pos hl, if_neg h0, if_neg h3, Option.bind_some, if_pos rfl, show inode_Put.f (k + 60) a0 a1 a2 a3 a4 a5 a6 a7 a8 a9 a10 a11 = _ from iPut_eq (k + 51) a0 a1 a2 a3 a4 a5 a6 a7 a8 a9 a10 a11, Option.bind_some, if_neg hR]
            dsimp only
            rw [if_neg (by decide)]
          · unfold leveeref07_Lay.f
            rw [if_pos hl, if_neg h0, decide_eq_false (show ¬ p > 3 by omega), leveeref07_Lay.j0, if_neg (by decide), show leveeref07_Put.f (k + 59) a0 a1 a2 a3 a4 a5 a6 a7 a8 a9 a10 a11 = _ from rPut_eq (k + 19) a0 a1 a2 a3 a4 a5 a6 a7 a8 a9 a10 a11, Option.bind_some, if_neg hR]
            dsimp only
            rw [if_neg (by decide)]
  · refine ⟨([], 4), ?_, ?_, fun h => absurd h (show ¬ (4 : Int) = 0 by decide)⟩
    · unfold inode_Lay.f inode_may.f
      rw [if_neg hl, Option.bind_some, if_neg (by decide)]
    · unfold leveeref07_Lay.f
      rw [if_neg hl]
theorem read_back (k : Nat) {l : List Int} (hl : l.length = 256) {a0 a1 a2 a3 a4 a5 a6 a7 a8 a9 a10 a11 : Int} (hR : RI a0 a1 a2 a3 a4 a5 a6 a7 a8 a9 a10 a11) (i : Nat) (hi : i < 4) : inode_Read.f (k + 60) (l.take (64 * i) ++ (bytesI a0 a1 a2 a3 a4 a5 a6 a7 a8 a9 a10 a11 ++ l.drop (64 * i + 64))) (i : Int) = some (a0, a1, a2, a3, a4, a5, a6, a7, a8, a9, a10, a11, 0) := by
  have hbl := bytesI_length a0 a1 a2 a3 a4 a5 a6 a7 a8 a9 a10 a11
  have hlen : (l.take (64 * i) ++ (bytesI a0 a1 a2 a3 a4 a5 a6 a7 a8 a9 a10 a11 ++ l.drop (64 * i + 64))).length = 256 := by
    rw [List.length_append, List.length_append, hbl, List.length_take, List.length_drop]
    omega
  have e1 : wrap64 ((i : Int) * 64) = ((64 * i : Nat) : Int) := by unfold wrap64; omega
  have e2 : wrap64 (wrap64 ((i : Int) + 1) * 64) = ((64 * i + 64 : Nat) : Int) := by unfold wrap64; omega
  have ht : (l.take (64 * i)).length = 64 * i := by rw [List.length_take]; omega
  have hc : ((l.take (64 * i) ++ (bytesI a0 a1 a2 a3 a4 a5 a6 a7 a8 a9 a10 a11 ++ l.drop (64 * i + 64))).take (64 * i + 64)).drop (64 * i) = bytesI a0 a1 a2 a3 a4 a5 a6 a7 a8 a9 a10 a11 := by
    rw [← List.append_assoc, List.take_append_of_le_length (by rw [List.length_append, ht, hbl]; omega), List.take_of_length_le (by rw [List.length_append, ht, hbl]; omega), List.drop_append_of_le_length (by omega), List.drop_of_length_le (by omega), List.nil_append]
  unfold inode_Read.f inode_may.f
  rw [if_pos (by omega), if_neg (by omega), if_neg (by omega), Option.bind_some, if_pos rfl, e1, e2]
  simp only [Int.toNat_natCast]
  rw [if_pos (by omega), if_pos (by omega), if_pos (by omega), hc, iGet_back k hR, Option.bind_some]
theorem known_at {k : Nat} (h : 100 ≤ k) : leveelaw07_known.f k = some true := at_rounds leveelaw07_known.mono h known_eq
end Go.Proofs.Ythcndfnmgggblaa.Inode
