/-
leveeref32.Pack, walked by hand: the same bytes as image.Pack's.
Conditions: none.
-/
import Derived.Test.YtnlneiiccoakjaaImgRefRows
import Derived.Test.YtnlneiiccoakjaaHandImgPack
import Derived.Test.YtnlneiiccoakjaaPx3
namespace Go.Proofs.Ytnlneiiccoakjaa.P
open Go.RowKit Go.Proofs.YtnlneiiccoakjaaW.PrintWords Go.Proofs.YtnlneiiccoakjaaW.PrintLast Go.Proofs.YtnlneiiccoakjaaW.PrintMore
attribute [local go_sem] max2_int min2_int max_two min_two max_three min_three max_four min_four
set_option linter.unusedVariables false
set_option linter.unusedSimpArgs false
open Go.Proofs.Ytnlneiiccoakjaa.Num Go.Proofs.Ytnlneiiccoakjaa.Plain
theorem bytesOf_str (l : List Int) (h : isBytes l) : bytesOf (strOfNums l) = l := by
  unfold bytesOf
  rw [strOfNums_data, List.map_map]
  conv => rhs; rw [← List.map_id l]
  apply List.map_congr_left
  intro x hx
  have := h x hx
  show (((UInt8.ofNat x.toNat).toNat : Nat) : Int) = x
  rw [UInt8.toNat_ofNat']
  omega
theorem stepR_f2 {l : List S41} {k : Int} {x : List Int} (hl : ∀ y ∈ l, isBytes y.f2) (hx : isBytes x) : ∀ y ∈ stepR l k x, isBytes y.f2 := by
  have hx' : isBytes (if k = 1 then x else []) := by
    split
    · exact hx
    · intro z hz; cases hz
  rcases snoc_cases l with h | ⟨xs, z, h⟩
  · subst h
    rw [stepR_nil]
    intro y hy
    rw [List.mem_singleton] at hy
    subst hy
    exact hx'
  · subst h
    rw [stepR_snoc]
    split
    · intro y hy
      rcases List.mem_append.mp hy with hy | hy
      · exact hl y (List.mem_append_left _ hy)
      · rw [List.mem_singleton] at hy
        subst hy
        intro v hv
        rcases List.mem_append.mp hv with hv | hv
        · exact hl z (by simp) v hv
        · exact hx' v hv
    · intro y hy
      rcases List.mem_append.mp hy with hy | hy
      · exact hl y hy
      · rw [List.mem_singleton] at hy
        subst hy
        exact hx'
theorem rowsN_f2 {b : List Int} (h : isBytes b) : ∀ i, ∀ y ∈ rowsN b i, isBytes y.f2
  | 0 => fun y hy => absurd hy (by simp [rowsN])
  | i + 1 => stepR_f2 (rowsN_f2 h i) (chunk_bytes h i)
end Go.Proofs.Ytnlneiiccoakjaa.P
