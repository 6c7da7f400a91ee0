/-
Plain laws on what any inode has.
Conditions: none.
-/
import Derived.Test.YthcndfnmgggblaaGeoI
import Derived.Test.YthcndfnmgggblaaHandInode
import Derived.Test.YthcndfnmgggblaaHandWithin
import Derived.Test.YthcndfnmgggblaaPx11
import Derived.Test.YthcndfnmgggblaaPx12
import Derived.Test.YthcndfnmgggblaaPx16
import Derived.Test.YthcndfnmgggblaaPx17
import Derived.Test.YthcndfnmgggblaaPx25
import Derived.Test.YthcndfnmgggblaaPx11
import Derived.Test.YthcndfnmgggblaaInodeKnown
namespace Go.Proofs.Ythcndfnmgggblaa.Ask
set_option linter.unusedSimpArgs false
set_option linter.unusedVariables false
open Go.RowKit Go.Proofs.YthcndfnmgggblaaW.PrintWords Go.Proofs.YthcndfnmgggblaaW.PrintLast Go.Proofs.YthcndfnmgggblaaW.PrintMore Go.Proofs.Ythcndfnmgggblaa.P

theorem w64 {x : Int} (h0 : -9223372036854775808 ≤ x) (h1 : x ≤ 9223372036854775807) : wrap64 x = x := by unfold wrap64; omega
theorem Blocks_eq (a0 a1 a2 a3 a4 a5 a6 a7 a8 a9 a10 a11 : Int) (h0 : -9223372036854775808 ≤ a2) (h1 : a2 ≤ 9223372036854775807) : ∃ r, inode_Blocks.f a0 a1 a2 a3 a4 a5 a6 a7 a8 a9 a10 a11 = some r ∧ leveeref07_Blocks.f a0 a1 a2 a3 a4 a5 a6 a7 a8 a9 a10 a11 = some r := by
  unfold inode_Blocks.f leveeref07_Blocks.f
  by_cases h : a2 ≤ 0
  · have hm : mx a2 0 = 0 := by unfold mx; split <;> omega
    rw [hm, if_pos h, if_neg (by decide)]
    exact ⟨_, rfl, by rw [w64 (by omega) (by omega)]; rfl⟩
  · have hm : mx a2 0 = a2 := by unfold mx; split <;> omega
    rw [hm, if_neg h, w64 (x := a2 - 1) (by omega) (by omega), Int.tdiv_eq_ediv_of_nonneg (by omega), w64 (x := (a2 - 1) / 256) (by omega) (by omega), w64 (x := (a2 - 1) / 256 + 1) (by omega) (by omega), w64 (x := a2 / 256) (by omega) (by omega), w64 (x := a2 / 256 + 1) (by omega) (by omega)]
    by_cases h2 : a2 % 256 > 0
    · rw [if_pos h2]
      exact ⟨_, rfl, by congr 1; omega⟩
    · rw [if_neg h2]
      exact ⟨_, rfl, by congr 1; omega⟩
def nz (b : Int) : List Int := if b = 0 then [] else [b]
theorem nz_length (b : Int) : (nz b).length ≤ 1 := by unfold nz; split <;> simp
/-- The blocks that an inode names itself. -/
def namesI (a4 a5 a6 a7 a8 a9 a10 a11 : Int) : List Int := [] ++ nz a4 ++ nz a5 ++ nz a6 ++ nz a7 ++ nz a8 ++ nz a9 ++ nz a10 ++ nz a11
theorem namesI_length (a4 a5 a6 a7 a8 a9 a10 a11 : Int) : (namesI a4 a5 a6 a7 a8 a9 a10 a11).length ≤ 8 := by
  have h4 := nz_length a4; have h5 := nz_length a5; have h6 := nz_length a6; have h7 := nz_length a7; have h8 := nz_length a8; have h9 := nz_length a9; have h10 := nz_length a10; have h11 := nz_length a11
  simp only [namesI, List.length_append, List.length_nil]
  omega
theorem add_nz {x : List Int} {c : Nat} (h : x.length ≤ c) (b : Int) : (x ++ nz b).length ≤ c + 1 := by
  have := nz_length b
  rw [List.length_append]
  omega
theorem ite_nz {α : Type} (f : List Int → Option α) (x : List Int) (b : Int) (h : x.length ≤ 100) : (if b = 0 then f x else if x.length < 17592186044416 then f (x ++ [b]) else none) = f (x ++ nz b) := by
  unfold nz
  by_cases hb : b = 0
  · rw [if_pos hb, if_pos hb, List.append_nil]
  · rw [if_neg hb, if_neg hb, if_pos (by omega)]
theorem inames_0 (k : Nat) (x : List Int) (b0 b1 b2 b3 b4 b5 b6 b7 : Int) (h : x.length ≤ 100) : inode_Names.l0 (k + 1) x 0 b0 b1 b2 b3 b4 b5 b6 b7 = inode_Names.l0 k (x ++ nz b0) 1 b0 b1 b2 b3 b4 b5 b6 b7 := by
  rw [inode_Names.l0, if_pos (by decide), if_pos rfl, show wrap64 (0 + 1) = 1 from w64 (by omega) (by omega)]
  exact ite_nz (fun y => inode_Names.l0 k y 1 b0 b1 b2 b3 b4 b5 b6 b7) x b0 h
theorem inames_1 (k : Nat) (x : List Int) (b0 b1 b2 b3 b4 b5 b6 b7 : Int) (h : x.length ≤ 100) : inode_Names.l0 (k + 1) x 1 b0 b1 b2 b3 b4 b5 b6 b7 = inode_Names.l0 k (x ++ nz b1) 2 b0 b1 b2 b3 b4 b5 b6 b7 := by
  rw [inode_Names.l0, if_pos (by decide), if_neg (by decide), if_pos rfl, show wrap64 (1 + 1) = 2 from w64 (by omega) (by omega)]
  exact ite_nz (fun y => inode_Names.l0 k y 2 b0 b1 b2 b3 b4 b5 b6 b7) x b1 h
theorem inames_2 (k : Nat) (x : List Int) (b0 b1 b2 b3 b4 b5 b6 b7 : Int) (h : x.length ≤ 100) : inode_Names.l0 (k + 1) x 2 b0 b1 b2 b3 b4 b5 b6 b7 = inode_Names.l0 k (x ++ nz b2) 3 b0 b1 b2 b3 b4 b5 b6 b7 := by
  rw [inode_Names.l0, if_pos (by decide), if_neg (by decide), if_neg (by decide), if_pos rfl, show wrap64 (2 + 1) = 3 from w64 (by omega) (by omega)]
  exact ite_nz (fun y => inode_Names.l0 k y 3 b0 b1 b2 b3 b4 b5 b6 b7) x b2 h
theorem inames_3 (k : Nat) (x : List Int) (b0 b1 b2 b3 b4 b5 b6 b7 : Int) (h : x.length ≤ 100) : inode_Names.l0 (k + 1) x 3 b0 b1 b2 b3 b4 b5 b6 b7 = inode_Names.l0 k (x ++ nz b3) 4 b0 b1 b2 b3 b4 b5 b6 b7 := by
  rw [inode_Names.l0, if_pos (by decide), if_neg (by decide), if_neg (by decide), if_neg (by decide), if_pos rfl, show wrap64 (3 + 1) = 4 from w64 (by omega) (by omega)]
  exact ite_nz (fun y => inode_Names.l0 k y 4 b0 b1 b2 b3 b4 b5 b6 b7) x b3 h
theorem inames_4 (k : Nat) (x : List Int) (b0 b1 b2 b3 b4 b5 b6 b7 : Int) (h : x.length ≤ 100) : inode_Names.l0 (k + 1) x 4 b0 b1 b2 b3 b4 b5 b6 b7 = inode_Names.l0 k (x ++ nz b4) 5 b0 b1 b2 b3 b4 b5 b6 b7 := by
  rw [inode_Names.l0, if_pos (by decide), if_neg (by decide), if_neg (by decide), if_neg (by decide), if_neg (by decide), if_pos rfl, show wrap64 (4 + 1) = 5 from w64 (by omega) (by omega)]
  exact ite_nz (fun y => inode_Names.l0 k y 5 b0 b1 b2 b3 b4 b5 b6 b7) x b4 h
theorem inames_5 (k : Nat) (x : List Int) (b0 b1 b2 b3 b4 b5 b6 b7 : Int) (h : x.length ≤ 100) : inode_Names.l0 (k + 1) x 5 b0 b1 b2 b3 b4 b5 b6 b7 = inode_Names.l0 k (x ++ nz b5) 6 b0 b1 b2 b3 b4 b5 b6 b7 := by
  rw [inode_Names.l0, if_pos (by decide), if_neg (by decide), if_neg (by decide), if_neg (by decide), if_neg (by decide), if_neg (by decide), if_pos rfl, show wrap64 (5 + 1) = 6 from w64 (by omega) (by omega)]
  exact ite_nz (fun y => inode_Names.l0 k y 6 b0 b1 b2 b3 b4 b5 b6 b7) x b5 h
theorem inames_6 (k : Nat) (x : List Int) (b0 b1 b2 b3 b4 b5 b6 b7 : Int) (h : x.length ≤ 100) : inode_Names.l0 (k + 1) x 6 b0 b1 b2 b3 b4 b5 b6 b7 = inode_Names.l0 k (x ++ nz b6) 7 b0 b1 b2 b3 b4 b5 b6 b7 := by
  rw [inode_Names.l0, if_pos (by decide), if_neg (by decide), if_neg (by decide), if_neg (by decide), if_neg (by decide), if_neg (by decide), if_neg (by decide), if_pos rfl, show wrap64 (6 + 1) = 7 from w64 (by omega) (by omega)]
  exact ite_nz (fun y => inode_Names.l0 k y 7 b0 b1 b2 b3 b4 b5 b6 b7) x b6 h
theorem inames_7 (k : Nat) (x : List Int) (b0 b1 b2 b3 b4 b5 b6 b7 : Int) (h : x.length ≤ 100) : inode_Names.l0 (k + 1) x 7 b0 b1 b2 b3 b4 b5 b6 b7 = inode_Names.l0 k (x ++ nz b7) 8 b0 b1 b2 b3 b4 b5 b6 b7 := by
  rw [inode_Names.l0, if_pos (by decide), if_neg (by decide), if_neg (by decide), if_neg (by decide), if_neg (by decide), if_neg (by decide), if_neg (by decide), if_neg (by decide), if_pos rfl, show wrap64 (7 + 1) = 8 from w64 (by omega) (by omega)]
  exact ite_nz (fun y => inode_Names.l0 k y 8 b0 b1 b2 b3 b4 b5 b6 b7) x b7 h
theorem rnames_0 (k : Nat) (x : List Int) (a0 a1 a2 a3 a4 a5 a6 a7 a8 a9 a10 a11 : Int) (h : x.length ≤ 100) : leveeref07_Names.l0 (k + 1) x 0 a0 a1 a2 a3 a4 a5 a6 a7 a8 a9 a10 a11 = leveeref07_Names.l0 k (x ++ nz a4) 1 a0 a1 a2 a3 a4 a5 a6 a7 a8 a9 a10 a11 := by
  rw [leveeref07_Names.l0, if_pos (by decide), if_pos rfl, show wrap64 (0 + 1) = 1 from w64 (by omega) (by omega)]
  exact ite_nz (fun y => leveeref07_Names.l0 k y 1 a0 a1 a2 a3 a4 a5 a6 a7 a8 a9 a10 a11) x a4 h
theorem rnames_1 (k : Nat) (x : List Int) (a0 a1 a2 a3 a4 a5 a6 a7 a8 a9 a10 a11 : Int) (h : x.length ≤ 100) : leveeref07_Names.l0 (k + 1) x 1 a0 a1 a2 a3 a4 a5 a6 a7 a8 a9 a10 a11 = leveeref07_Names.l0 k (x ++ nz a5) 2 a0 a1 a2 a3 a4 a5 a6 a7 a8 a9 a10 a11 := by
  rw [leveeref07_Names.l0, if_pos (by decide), if_neg (by decide), if_pos rfl, show wrap64 (1 + 1) = 2 from w64 (by omega) (by omega)]
  exact ite_nz (fun y => leveeref07_Names.l0 k y 2 a0 a1 a2 a3 a4 a5 a6 a7 a8 a9 a10 a11) x a5 h
theorem rnames_2 (k : Nat) (x : List Int) (a0 a1 a2 a3 a4 a5 a6 a7 a8 a9 a10 a11 : Int) (h : x.length ≤ 100) : leveeref07_Names.l0 (k + 1) x 2 a0 a1 a2 a3 a4 a5 a6 a7 a8 a9 a10 a11 = leveeref07_Names.l0 k (x ++ nz a6) 3 a0 a1 a2 a3 a4 a5 a6 a7 a8 a9 a10 a11 := by
  rw [leveeref07_Names.l0, if_pos (by decide), if_neg (by decide), if_neg (by decide), if_pos rfl, show wrap64 (2 + 1) = 3 from w64 (by omega) (by omega)]
  exact ite_nz (fun y => leveeref07_Names.l0 k y 3 a0 a1 a2 a3 a4 a5 a6 a7 a8 a9 a10 a11) x a6 h
theorem rnames_3 (k : Nat) (x : List Int) (a0 a1 a2 a3 a4 a5 a6 a7 a8 a9 a10 a11 : Int) (h : x.length ≤ 100) : leveeref07_Names.l0 (k + 1) x 3 a0 a1 a2 a3 a4 a5 a6 a7 a8 a9 a10 a11 = leveeref07_Names.l0 k (x ++ nz a7) 4 a0 a1 a2 a3 a4 a5 a6 a7 a8 a9 a10 a11 := by
  rw [leveeref07_Names.l0, if_pos (by decide), if_neg (by decide), if_neg (by decide), if_neg (by decide), if_pos rfl, show wrap64 (3 + 1) = 4 from w64 (by omega) (by omega)]
  exact ite_nz (fun y => leveeref07_Names.l0 k y 4 a0 a1 a2 a3 a4 a5 a6 a7 a8 a9 a10 a11) x a7 h
theorem rnames_4 (k : Nat) (x : List Int) (a0 a1 a2 a3 a4 a5 a6 a7 a8 a9 a10 a11 : Int) (h : x.length ≤ 100) : leveeref07_Names.l0 (k + 1) x 4 a0 a1 a2 a3 a4 a5 a6 a7 a8 a9 a10 a11 = leveeref07_Names.l0 k (x ++ nz a8) 5 a0 a1 a2 a3 a4 a5 a6 a7 a8 a9 a10 a11 := by
  rw [leveeref07_Names.l0, if_pos (by decide), if_neg (by decide), if_neg (by decide), if_neg (by decide), if_neg (by decide), if_pos rfl, show wrap64 (4 + 1) = 5 from w64 (by omega) (by omega)]
  exact ite_nz (fun y => leveeref07_Names.l0 k y 5 a0 a1 a2 a3 a4 a5 a6 a7 a8 a9 a10 a11) x a8 h
theorem rnames_5 (k : Nat) (x : List Int) (a0 a1 a2 a3 a4 a5 a6 a7 a8 a9 a10 a11 : Int) (h : x.length ≤ 100) : leveeref07_Names.l0 (k + 1) x 5 a0 a1 a2 a3 a4 a5 a6 a7 a8 a9 a10 a11 = leveeref07_Names.l0 k (x ++ nz a9) 6 a0 a1 a2 a3 a4 a5 a6 a7 a8 a9 a10 a11 := by
  rw [leveeref07_Names.l0, if_pos (by decide), if_neg (by decide), if_neg (by decide), if_neg (by decide), if_neg (by decide), if_neg (by decide), if_pos rfl, show wrap64 (5 + 1) = 6 from w64 (by omega) (by omega)]
  exact ite_nz (fun y => leveeref07_Names.l0 k y 6 a0 a1 a2 a3 a4 a5 a6 a7 a8 a9 a10 a11) x a9 h
theorem iNames_eq (k : Nat) (a0 a1 a2 a3 a4 a5 a6 a7 a8 a9 a10 a11 : Int) : inode_Names.f (k + 9) a0 a1 a2 a3 a4 a5 a6 a7 a8 a9 a10 a11 = some (namesI a4 a5 a6 a7 a8 a9 a10 a11) := by
  unfold inode_Names.f inode_all.f
  rw [Option.bind_some]
  dsimp only
  have h0 : ([] : List Int).length ≤ 0 := Nat.le_refl _
  have h1 : (([] ++ nz a4)).length ≤ 1 := add_nz h0 a4
  have h2 : ((([] ++ nz a4) ++ nz a5)).length ≤ 2 := add_nz h1 a5
  have h3 : (((([] ++ nz a4) ++ nz a5) ++ nz a6)).length ≤ 3 := add_nz h2 a6
  have h4 : ((((([] ++ nz a4) ++ nz a5) ++ nz a6) ++ nz a7)).length ≤ 4 := add_nz h3 a7
  have h5 : (((((([] ++ nz a4) ++ nz a5) ++ nz a6) ++ nz a7) ++ nz a8)).length ≤ 5 := add_nz h4 a8
  have h6 : ((((((([] ++ nz a4) ++ nz a5) ++ nz a6) ++ nz a7) ++ nz a8) ++ nz a9)).length ≤ 6 := add_nz h5 a9
  have h7 : (((((((([] ++ nz a4) ++ nz a5) ++ nz a6) ++ nz a7) ++ nz a8) ++ nz a9) ++ nz a10)).length ≤ 7 := add_nz h6 a10
  rw [show k + 9 = k + 8 + 1 from rfl, inames_0 _ _ _ _ _ _ _ _ _ _ (by omega), inames_1 _ _ _ _ _ _ _ _ _ _ (by omega), inames_2 _ _ _ _ _ _ _ _ _ _ (by omega), inames_3 _ _ _ _ _ _ _ _ _ _ (by omega), inames_4 _ _ _ _ _ _ _ _ _ _ (by omega), inames_5 _ _ _ _ _ _ _ _ _ _ (by omega), inames_6 _ _ _ _ _ _ _ _ _ _ (by omega), inames_7 _ _ _ _ _ _ _ _ _ _ (by omega), inode_Names.l0, if_neg (by decide)]
  rfl
theorem rNames_eq (k : Nat) (a0 a1 a2 a3 a4 a5 a6 a7 a8 a9 a10 a11 : Int) : leveeref07_Names.f (k + 9) a0 a1 a2 a3 a4 a5 a6 a7 a8 a9 a10 a11 = some (namesI a4 a5 a6 a7 a8 a9 a10 a11) := by
  unfold leveeref07_Names.f
  have h0 : ([] : List Int).length ≤ 0 := Nat.le_refl _
  have h1 : (([] ++ nz a4)).length ≤ 1 := add_nz h0 a4
  have h2 : ((([] ++ nz a4) ++ nz a5)).length ≤ 2 := add_nz h1 a5
  have h3 : (((([] ++ nz a4) ++ nz a5) ++ nz a6)).length ≤ 3 := add_nz h2 a6
  have h4 : ((((([] ++ nz a4) ++ nz a5) ++ nz a6) ++ nz a7)).length ≤ 4 := add_nz h3 a7
  have h5 : (((((([] ++ nz a4) ++ nz a5) ++ nz a6) ++ nz a7) ++ nz a8)).length ≤ 5 := add_nz h4 a8
  have h6 : ((((((([] ++ nz a4) ++ nz a5) ++ nz a6) ++ nz a7) ++ nz a8) ++ nz a9)).length ≤ 6 := add_nz h5 a9
  have h7 : (((((((([] ++ nz a4) ++ nz a5) ++ nz a6) ++ nz a7) ++ nz a8) ++ nz a9) ++ nz a10)).length ≤ 7 := add_nz h6 a10
  rw [show k + 9 = k + 8 + 1 from rfl, rnames_0 _ _ _ _ _ _ _ _ _ _ _ _ _ _ (by omega), rnames_1 _ _ _ _ _ _ _ _ _ _ _ _ _ _ (by omega), rnames_2 _ _ _ _ _ _ _ _ _ _ _ _ _ _ (by omega), rnames_3 _ _ _ _ _ _ _ _ _ _ _ _ _ _ (by omega), rnames_4 _ _ _ _ _ _ _ _ _ _ _ _ _ _ (by omega), rnames_5 _ _ _ _ _ _ _ _ _ _ _ _ _ _ (by omega), leveeref07_Names.l0, if_neg (by decide)]
  unfold namesI
  generalize [] ++ nz a4 ++ nz a5 ++ nz a6 ++ nz a7 ++ nz a8 ++ nz a9 = x at h6
  unfold nz
  by_cases h1 : a10 = 0
  · rw [if_pos h1, if_pos h1, List.append_nil]
    by_cases h2 : a11 = 0
    · rw [if_pos h2, if_pos h2, List.append_nil]
    · rw [if_neg h2, if_neg h2, if_pos (by omega)]
  · rw [if_neg h1, if_neg h1, if_pos (by omega), Option.bind_some]
    by_cases h2 : a11 = 0
    · rw [if_pos h2, if_pos h2, List.append_nil]
    · rw [if_neg h2, if_neg h2, if_pos (by rw [List.length_append, List.length_singleton]; omega)]
theorem rd_at (l : List Int) (i : Nat) (h : i < l.length) : rd l (i : Int) = l[i] := by simp [rd, h]
theorem Ints_loop (l : List Int) (hl : l.length ≤ 1000) : ∀ (d i k : Nat), i + d = l.length → d < k → leveeref01_Ints.l0 k l l (i : Int) = some true := by
  intro d
  induction d with
  | zero =>
    intro i k hi hk
    obtain ⟨k, rfl⟩ : ∃ m, k = m + 1 := ⟨k - 1, by omega⟩
    rw [leveeref01_Ints.l0, if_neg (by omega)]
  | succ d ih =>
    intro i k hi hk
    obtain ⟨k, rfl⟩ : ∃ m, k = m + 1 := ⟨k - 1, by omega⟩
    rw [leveeref01_Ints.l0, if_pos (by omega), if_pos (by omega), if_pos (by omega), if_pos rfl, w64 (by omega) (by omega)]
    exact ih (i + 1) k (by omega) (by omega)
theorem Ints_eq (k : Nat) (l : List Int) (hl : l.length ≤ 1000) (hk : l.length < k) : leveeref01_Ints.f k l l = some true := by
  unfold leveeref01_Ints.f
  rw [if_pos rfl]
  exact Ints_loop l hl l.length 0 k (by omega) hk
/-- All data blocks, none twice, none of those that were met. -/
def V (G I N : Int) : List Int → List Int → Bool
  | [], _ => true
  | n :: l, met => ((Geo.kindS G I N n).1 == 4 && !(met.contains n)) && V G I N l (met ++ [n])
theorem within_S (k : Nat) (G I N : Int) : ∀ (l met : List Int), withinS (k + 3) G I N l met = some (V G I N l met && Geo.R G I N)
  | [], _ => by
    rw [withinS, show geo_Right.f (k + 3) G I N = _ from Geo.Right_eq (k + 1) G I N]
    rfl
  | n :: l, met => by
    rw [withinS, Geo.Kind_eq, Option.bind_some, V]
    by_cases h1 : (Geo.kindS G I N n).1 = 4
    · rw [if_pos h1, beq_iff_eq.mpr h1]
      by_cases h2 : n ∈ met
      · rw [if_pos h2, List.contains_iff_mem.mpr h2]
        rfl
      · rw [if_neg h2, within_S k G I N l (met ++ [n]), show met.contains n = false from by rw [← Bool.not_eq_true, List.contains_iff_mem]; exact h2]
        simp
    · rw [if_neg h1, show ((Geo.kindS G I N n).1 == 4) = false from beq_eq_false_iff_ne.mpr h1]
      rfl
theorem take_more {l : List Int} {i : Nat} (h : i < l.length) : l.take (i + 1) = l.take i ++ [l[i]] := List.take_succ_eq_append_getElem h
theorem inner (l : List Int) (hl : l.length ≤ 1000) (G I N : Int) (i : Nat) (hi : i < l.length) : ∀ (d j k : Nat) (c : Bool), j + d = i →
    leveeref07_Within.l1 (k + d + 1) l c (i : Int) (j : Int) G I N = leveeref07_Within.l0 k l (c && !(((l.take i).drop j).contains l[i])) (((i + 1 : Nat) : Int)) G I N := by
  intro d
  induction d with
  | zero =>
    intro j k c hj
    obtain rfl : j = i := by omega
    rw [leveeref07_Within.l1, if_neg (by omega), List.drop_of_length_le (by rw [List.length_take]; omega), w64 (by omega) (by omega)]
    simp
  | succ d ih =>
    intro j k c hj
    have e1 : wrap64 ((j : Int) + 1) = ((j + 1 : Nat) : Int) := w64 (by omega) (by omega)
    have hjl : j < (l.take i).length := by rw [List.length_take]; omega
    rw [show k + (d + 1) + 1 = (k + d + 1) + 1 from rfl, leveeref07_Within.l1, if_pos (by omega), e1, List.drop_eq_getElem_cons hjl, List.getElem_take]
    cases c
    · rw [if_neg (by decide), ih (j + 1) k false (by omega)]
      rfl
    · rw [if_pos rfl, if_pos (by omega), if_pos (by omega), if_pos (by omega), if_pos (by omega), rd_at l j (by omega), rd_at l i hi, ih (j + 1) k _ (by omega)]
      congr 1
      rw [List.contains_cons]
      cases h : (List.drop (j + 1) (List.take i l)).contains l[i] <;> simp [bne, eq_comm, Bool.beq_comm]
theorem outer (l : List Int) (hl : l.length ≤ 8) (G I N : Int) : ∀ (d i k : Nat) (b : Bool), i + d = l.length → 14 * d + 1 ≤ k →
    leveeref07_Within.l0 k l b (i : Int) G I N = some (b && V G I N (l.drop i) (l.take i)) := by
  intro d
  induction d with
  | zero =>
    intro i k b hi hk
    obtain ⟨k, rfl⟩ : ∃ m, k = m + 1 := ⟨k - 1, by omega⟩
    rw [leveeref07_Within.l0, if_neg (by omega), List.drop_of_length_le (by omega), V, Bool.and_true]
  | succ d ih =>
    intro i k b hi hk
    have hil : i < l.length := by omega
    obtain ⟨k, rfl⟩ : ∃ m, k = m + 3 + i := ⟨k - 3 - i, by omega⟩
    rw [show k + 3 + i = (k + i + 2) + 1 by omega, leveeref07_Within.l0, if_pos (by omega), if_pos (by omega), rd_at l i hil, show leveeref03_Kind.f (k + i + 2) G I N l[i] = _ from Geo.refKind_eq (k + i + 1) G I N l[i], Option.bind_some]
    have hin : ∀ c : Bool, leveeref07_Within.j1 (k + i + 2) l c (i : Int) G I N = leveeref07_Within.l0 k l (c && !((l.take i).contains l[i])) (((i + 1 : Nat) : Int)) G I N := by
      intro c
      rw [show k + i + 2 = (k + i + 1) + 1 from rfl, leveeref07_Within.j1]
      exact inner l (by omega) G I N i hil i 0 k c (by omega)
    rw [hin, hin, ih (i + 1) k _ (by omega) (by omega), ih (i + 1) k _ (by omega) (by omega), List.drop_eq_getElem_cons hil, V, take_more hil]
    cases b
    · rw [if_neg (by decide)]
      rfl
    · rw [if_pos rfl, Bool.true_and]
theorem Within_eq (G I N a0 a1 a2 a3 a4 a5 a6 a7 a8 a9 a10 a11 : Int) : ∃ r, inode_Within.f 200 G I N a0 a1 a2 a3 a4 a5 a6 a7 a8 a9 a10 a11 = some r ∧ leveeref07_Within.f 200 G I N a0 a1 a2 a3 a4 a5 a6 a7 a8 a9 a10 a11 = some r := by
  have hl := namesI_length a4 a5 a6 a7 a8 a9 a10 a11
  refine ⟨V G I N (namesI a4 a5 a6 a7 a8 a9 a10 a11) [] && Geo.R G I N, ?_, ?_⟩
  · unfold inode_Within.f
    rw [show inode_Names.f 200 a0 a1 a2 a3 a4 a5 a6 a7 a8 a9 a10 a11 = _ from iNames_eq 191 a0 a1 a2 a3 a4 a5 a6 a7 a8 a9 a10 a11, Option.bind_some, if_pos (by omega)]
    exact within_S 197 G I N _ []
  · unfold leveeref07_Within.f
    rw [show leveeref07_Names.f 200 a0 a1 a2 a3 a4 a5 a6 a7 a8 a9 a10 a11 = _ from rNames_eq 191 a0 a1 a2 a3 a4 a5 a6 a7 a8 a9 a10 a11, Option.bind_some, Geo.refRight_eq, Option.bind_some, show leveeref07_Within.l0 200 (namesI a4 a5 a6 a7 a8 a9 a10 a11) (Geo.R G I N) 0 G I N = _ from outer _ hl G I N (namesI a4 a5 a6 a7 a8 a9 a10 a11).length 0 200 _ (by omega) (by omega), Bool.and_comm]
    rfl
end Go.Proofs.Ythcndfnmgggblaa.Ask
