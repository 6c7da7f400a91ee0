/-
What the reference's Rows comes to: the same rows, their bytes as strings.
Conditions: none.
-/
import Derived.Test.YtnlneiiccoakjaaHandImgRef
import Derived.Test.YtnlneiiccoakjaaHandImgRows
import Derived.Test.YtnlneiiccoakjaaPx5
namespace Go.Proofs.Ytnlneiiccoakjaa.P
open Go.RowKit Go.Proofs.YtnlneiiccoakjaaW.PrintWords Go.Proofs.YtnlneiiccoakjaaW.PrintLast Go.Proofs.YtnlneiiccoakjaaW.PrintMore
attribute [local go_sem] max2_int min2_int max_two min_two max_three min_three max_four min_four
set_option linter.unusedVariables false
set_option linter.unusedSimpArgs false
open Go.Proofs.Ytnlneiiccoakjaa.Num Go.Proofs.Ytnlneiiccoakjaa.Plain
def strR (r : S41) : S54 := ⟨r.f0, r.f1, strOfNums r.f2⟩
theorem str_append (a b : List Int) : strOfNums (a ++ b) = strOfNums a ++ strOfNums b := by
  apply ByteArray.ext
  apply Array.ext'
  rw [ByteArray.data_append, Array.toList_append, strOfNums_data, strOfNums_data, strOfNums_data, List.map_append]
theorem rd_snoc (xs : List S54) (y : S54) : rd_T54 (xs ++ [y]) (xs.length : Int) = y := by
  unfold rd_T54
  rw [Int.toNat_natCast]
  simp
theorem right_eq (l : List Int) (hl : l.length ≤ 9223372036854775807) : leveeref32_right.f l = some (diskB l) := by
  unfold leveeref32_right.f diskB
  by_cases h0 : (l.length : Int) > 0
  · rw [if_pos h0]
    by_cases h1 : (l.length : Int) % 256 = 0
    · rw [if_pos h1, w64 (by omega) (by omega)]
      congr 1
      rw [decide_eq_decide]
      omega
    · rw [if_neg h1, decide_eq_false (by omega)]
  · rw [if_neg h0, decide_eq_false (by omega)]
theorem j1_true (k : Nat) (x0 : List Int) (x4 : List S54) (x5 x6 : Int) (h : x4.length < 4398046511104) : leveeref32_Rows.j1 (k + 1) x0 x4 x5 x6 true = leveeref32_Rows.j1 (k + 1) x0 (x4 ++ [⟨x6, 0, ⟨#[]⟩⟩]) x5 x6 false := by
  unfold leveeref32_Rows.j1
  rw [if_pos rfl, if_pos h, if_neg (by decide), Option.bind_some]
theorem j1_false (k : Nat) (x0 : List Int) (xs : List S54) (y : S54) (i : Nat) (x6 : Int) (hx : xs.length ≤ 4096) (hi : 256 * i + 256 ≤ x0.length) (hl : x0.length ≤ 1048576) (hy : 0 ≤ y.f1 ∧ y.f1 ≤ 4096) (hs : y.f2.size ≤ 1048576) :
    leveeref32_Rows.j1 (k + 1) x0 (xs ++ [y]) (i : Int) x6 false = leveeref32_Rows.l0 k x0 (xs ++ [⟨y.f0, y.f1 + 1, if x6 = 1 then y.f2 ++ strOfNums (chunk x0 i) else y.f2⟩]) ((i + 1 : Nat) : Int) := by
  unfold leveeref32_Rows.j1
  have e : wrap64 (((xs ++ [y]).length : Int) - 1) = (xs.length : Int) := by
    rw [List.length_append, List.length_singleton, w64 (by omega) (by omega)]
    omega
  have e1 : wrap64 (256 * (i : Int)) = ((256 * i : Nat) : Int) := by rw [w64 (by omega) (by omega)]; omega
  have e2 : wrap64 (((256 * i : Nat) : Int) + 256) = ((256 * i + 256 : Nat) : Int) := by rw [w64 (by omega) (by omega)]; omega
  have e3 : wrap64 ((i : Int) + 1) = ((i + 1 : Nat) : Int) := by rw [w64 (by omega) (by omega)]; omega
  have e4 : wrap64 (y.f1 + 1) = y.f1 + 1 := w64 (by omega) (by omega)
  have hset : ∀ z : S54, (xs ++ [y]).set xs.length z = xs ++ [z] := fun z => by
    rw [List.set_append_right _ _ (Nat.le_refl _), Nat.sub_self]
    rfl
  have hlen : ((xs ++ [y]).length : Int) = (xs.length : Int) + 1 := by rw [List.length_append, List.length_singleton]; omega
  rw [if_neg (by decide), e, if_pos (by omega), if_pos (by rw [hlen]; omega), rd_snoc, e1, e2, e3, e4]
  simp only [Int.toNat_natCast]
  by_cases h6 : x6 = 1
  · rw [if_pos h6, if_pos h6, if_pos (by omega), if_pos (by omega), if_pos (by omega), chunk_cut, if_pos, hset]
    rw [strOfNums_size]
    have := chunk_le x0 i
    omega
  · rw [if_neg h6, if_neg h6, hset]
theorem refRows_loop (b : List Int) (hb : isBytes b) (hd : b.length % 256 = 0) (hl : b.length ≤ 1048576) : ∀ (d i k : Nat), i + d = b.length / 256 → 3 * d < k →
    leveeref32_Rows.l0 k b ((rowsN b i).map strR) (i : Int) = some ((rowsN b (b.length / 256)).map strR, 0)
  | 0, i, k, hi, hk => by
    obtain ⟨k, rfl⟩ : ∃ j, k = j + 1 := ⟨k - 1, by omega⟩
    unfold leveeref32_Rows.l0
    rw [w64 (by omega) (by omega), if_neg (by omega), show i = b.length / 256 from by omega]
  | d + 1, i, k, hi, hk => by
    obtain ⟨k, rfl⟩ : ∃ j, k = j + 3 := ⟨k - 3, by omega⟩
    have ih := refRows_loop b hb hd hl d (i + 1) (k + 1) (by omega) (by omega)
    have hok := rowsN_ok b i
    have hkind : leveeref32_kind.f b (i : Int) = some (kindN b i) := by
      unfold leveeref32_kind.f
      rw [if_pos ⟨bytesB_iff.mpr hb, by omega, by omega, by omega⟩, Int.toNat_natCast]
    unfold leveeref32_Rows.l0
    rw [w64 (by omega) (by omega), if_pos (by omega), hkind, Option.bind_some]
    have hstep : rowsN b (i + 1) = stepR (rowsN b i) (kindN b i) (chunk b i) := rfl
    rw [hstep] at ih
    generalize rowsN b i = L at hok ih
    generalize kindN b i = t at ih
    have hnew : leveeref32_Rows.j1 (k + 2) b (L.map strR) (i : Int) t true = leveeref32_Rows.l0 (k + 1) b ((L ++ [(⟨t, 1, if t = 1 then chunk b i else []⟩ : S41)]).map strR) ((i + 1 : Nat) : Int) := by
      rw [j1_true _ _ _ _ _ (by rw [List.length_map]; omega), j1_false (k + 1) b (L.map strR) ⟨t, 0, ⟨#[]⟩⟩ i t (by rw [List.length_map]; omega) (by omega) (by omega) (show (0 : Int) ≤ 0 ∧ (0 : Int) ≤ 4096 from by decide) (show (0 : Nat) ≤ 1048576 from by decide), List.map_append]
      congr 2
      by_cases h6 : t = 1
      · rw [if_pos h6]
        simp only [if_pos h6, List.map_cons, List.map_nil, strR]
        rw [show (⟨#[]⟩ : ByteArray) = strOfNums [] from rfl, ← str_append]
        rfl
      · rw [if_neg h6]
        simp only [if_neg h6, List.map_cons, List.map_nil, strR]
        rfl
    rcases snoc_cases L with h | ⟨xs, y, h⟩
    · subst h
      rw [stepR_nil] at ih
      rw [if_pos (by simp), hnew]
      exact ih
    · subst h
      rw [stepR_snoc] at ih
      have hlen : (((xs ++ [y]).map strR).length : Int) = (xs.length : Int) + 1 := by simp
      have hx1 : xs.length + 1 ≤ i := by have := hok.1; simp at this; omega
      have hy := hok.2 y (by simp)
      rw [if_neg (by rw [hlen]; omega), hlen, show (xs.length : Int) + 1 - 1 = (xs.length : Int) from by omega, w64 (by omega) (by omega), if_pos (by omega), if_pos (by omega)]
      have hrd : rd_T54 ((xs ++ [y]).map strR) (xs.length : Int) = strR y := by
        rw [List.map_append, show (xs.length : Int) = ((xs.map strR).length : Int) from by simp]
        exact rd_snoc _ _
      rw [hrd]
      by_cases hk0 : y.f0 = t
      · rw [if_pos hk0] at ih
        rw [show ((strR y).f0 != t) = false from by simp [strR, hk0], List.map_append, show [y].map strR = [strR y] from rfl,
          j1_false _ _ _ _ _ _ (by rw [List.length_map]; omega) (by omega) (by omega) ⟨hy.1, by have := hy.2.1; show y.f1 ≤ 4096; omega⟩ (by show (strOfNums y.f2).size ≤ _; rw [strOfNums_size]; omega)]
        rw [← ih, List.map_append]
        congr 2
        by_cases h6 : t = 1
        · simp only [if_pos h6, List.map_cons, List.map_nil, strR, hk0, str_append]
        · simp only [if_neg h6, List.map_cons, List.map_nil, strR, hk0, List.append_nil]
      · rw [if_neg hk0] at ih
        rw [show ((strR y).f0 != t) = true from by simp [strR, hk0], hnew]
        exact ih
def refRowsP (b : List Int) : List S54 × Int := ((rowsP b).1.map strR, (rowsP b).2)
theorem refRows_eq (b : List Int) (hb : isBytes b) (hl : b.length ≤ 9223372036854775807) (k : Nat) (hk : 12289 ≤ k) : leveeref32_Rows.f k b = some (refRowsP b) := by
  unfold leveeref32_Rows.f refRowsP rowsP
  rw [right_eq b hl, Option.bind_some]
  by_cases hd : diskB b = true
  · have hd' : b.length ≠ 0 ∧ b.length % 256 = 0 ∧ b.length ≤ 1048576 := of_decide_eq_true hd
    rw [if_pos hd, if_pos hd]
    exact refRows_loop b hb hd'.2.1 hd'.2.2 (b.length / 256) 0 k (by omega) (by omega)
  · rw [if_neg hd, if_neg hd]
    rfl
end Go.Proofs.Ytnlneiiccoakjaa.P
