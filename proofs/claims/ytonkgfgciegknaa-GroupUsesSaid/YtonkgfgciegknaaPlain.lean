/-
Plain laws on bytes, numbers cut out of them, and texts made of them.
Conditions: none.
-/
import Derived.Test.YtonkgfgciegknaaNumI
namespace Go.Proofs.Ytonkgfgciegknaa.Plain
open Go.RowKit Go.Proofs.YtonkgfgciegknaaW.PrintWords Go.Proofs.YtonkgfgciegknaaW.PrintLast Go.Proofs.YtonkgfgciegknaaW.PrintMore Go.Proofs.Ytonkgfgciegknaa.P Go.Proofs.Ytonkgfgciegknaa.Num
def cutG (l : List Int) (a b : Nat) : Int := getS ((l.take b).drop a)
theorem cut_bytes {l : List Int} (h : isBytes l) (a b : Nat) : isBytes ((l.take b).drop a) := fun x hx => h x (List.mem_of_mem_take (List.mem_of_mem_drop hx))
theorem cut_length {l : List Int} {a b : Nat} (h : b ≤ l.length) : ((l.take b).drop a).length = b - a := by rw [List.length_drop, List.length_take, Nat.min_eq_left h]
theorem num_cut (k : Nat) {l : List Int} (hb : isBytes l) (a b : Nat) (h : b ≤ l.length) (h8 : b - a ≤ 8) (hk : 8 < k) : num_Get.f k ((l.take b).drop a) = some (cutG l a b) := by
  rw [Get_eq k _ (cut_bytes hb a b) hk, List.take_of_length_le (by rw [cut_length h]; omega)]
  rfl
theorem cut_range {l : List Int} (hb : isBytes l) (a b : Nat) (h : b ≤ l.length) : 0 ≤ cutG l a b ∧ cutG l a b < 256 ^ (b - a) := by
  have := getS_range _ (cut_bytes hb a b)
  rwa [cut_length h] at this
end Go.Proofs.Ytonkgfgciegknaa.Plain
