-- PRINTED by print.py (a twelfth state) out of the translation. Not trusted: Lean checks it.
import Derived.Test.YtonkgfgciegknaaPx0
import Derived.Test.YtonkgfgciegknaaPx4
import Derived.Test.YtonkgfgciegknaaHand
import Derived.Test.YtonkgfgciegknaaCells
namespace Go.Proofs.Ytonkgfgciegknaa.P
open Go.RowKit Go.Proofs.YtonkgfgciegknaaW.PrintWords Go.Proofs.YtonkgfgciegknaaW.PrintLast Go.Proofs.YtonkgfgciegknaaW.PrintMore
attribute [local go_sem] max2_int min2_int max_two min_two max_three min_three max_four min_four   -- for this text's walks alone
set_option linter.unusedVariables false
set_option linter.unusedSimpArgs false

/-! ### leveeref06_Right: function 17 -/
mutual
def leveeref06_Right.j0 : Nat → Bool → Int → Int → Int → Int → List Int → List Int → Option (Bool)
 | 0, _, _, _, _, _, _, _ => none
 | k + 1, x34, x126000, x126001, x126002, x127000, x127001, x127002 => if x34 = true then (some false) else (leveeref06_Right.l0 k true 0 x126000 x126001 x126002 x127000 x127001 x127002)
def leveeref06_Right.l0 : Nat → Bool → Int → Int → Int → Int → Int → List Int → List Int → Option (Bool)
 | 0, _, _, _, _, _, _, _, _ => none
 | k + 1, x5, x6, x126000, x126001, x126002, x127000, x127001, x127002 => if x6 < 128 then (if x6 < (wrap64 (1 + (wrap64 (Int.tdiv x126001 4)))) then ((leveeref05_Get.f x127001 x6).bind fun t128 => (if t128 = true then (if x6 ≥ x126000 then ((leveeref05_Get.f x127001 x6).bind fun t129 => (if t129 = true then (leveeref06_Right.l0 k false (wrap64 (x6 + 1)) x126000 x126001 x126002 x127000 x127001 x127002) else (leveeref06_Right.l0 k x5 (wrap64 (x6 + 1)) x126000 x126001 x126002 x127000 x127001 x127002))) else (leveeref06_Right.l0 k x5 (wrap64 (x6 + 1)) x126000 x126001 x126002 x127000 x127001 x127002)) else (leveeref06_Right.l0 k false (wrap64 (x6 + 1)) x126000 x126001 x126002 x127000 x127001 x127002))) else (if x6 ≥ x126000 then ((leveeref05_Get.f x127001 x6).bind fun t130 => (if t130 = true then (leveeref06_Right.l0 k false (wrap64 (x6 + 1)) x126000 x126001 x126002 x127000 x127001 x127002) else (leveeref06_Right.l0 k x5 (wrap64 (x6 + 1)) x126000 x126001 x126002 x127000 x127001 x127002))) else (leveeref06_Right.l0 k x5 (wrap64 (x6 + 1)) x126000 x126001 x126002 x127000 x127001 x127002))) else (leveeref06_Right.l1 k x5 0 x126000 x126001 x126002 x127000 x127001 x127002)
def leveeref06_Right.l1 : Nat → Bool → Int → Int → Int → Int → Int → List Int → List Int → Option (Bool)
 | 0, _, _, _, _, _, _, _, _ => none
 | k + 1, x5, x7, x126000, x126001, x126002, x127000, x127001, x127002 => if x7 < 64 then (if x7 ≥ x126001 then ((leveeref05_Get.f x127002 x7).bind fun t131 => (if t131 = true then (leveeref06_Right.l1 k false (wrap64 (x7 + 1)) x126000 x126001 x126002 x127000 x127001 x127002) else (if x127000 = 0 then (if x7 < 2 then ((leveeref05_Get.f x127002 x7).bind fun t132 => (if t132 = true then (leveeref06_Right.l1 k x5 (wrap64 (x7 + 1)) x126000 x126001 x126002 x127000 x127001 x127002) else (leveeref06_Right.l1 k false (wrap64 (x7 + 1)) x126000 x126001 x126002 x127000 x127001 x127002))) else (leveeref06_Right.l1 k x5 (wrap64 (x7 + 1)) x126000 x126001 x126002 x127000 x127001 x127002)) else (leveeref06_Right.l1 k x5 (wrap64 (x7 + 1)) x126000 x126001 x126002 x127000 x127001 x127002)))) else (if x127000 = 0 then (if x7 < 2 then ((leveeref05_Get.f x127002 x7).bind fun t133 => (if t133 = true then (leveeref06_Right.l1 k x5 (wrap64 (x7 + 1)) x126000 x126001 x126002 x127000 x127001 x127002) else (leveeref06_Right.l1 k false (wrap64 (x7 + 1)) x126000 x126001 x126002 x127000 x127001 x127002))) else (leveeref06_Right.l1 k x5 (wrap64 (x7 + 1)) x126000 x126001 x126002 x127000 x127001 x127002)) else (leveeref06_Right.l1 k x5 (wrap64 (x7 + 1)) x126000 x126001 x126002 x127000 x127001 x127002))) else (some x5)
end
def leveeref06_Right.f (k : Nat) (a0_0 : Int) (a0_1 : Int) (a0_2 : Int) (a1_0 : Int) (l1_1 : List Int) (l1_2 : List Int) : Option (Bool) := (leveeref03_Right.f a0_0 a0_1 a0_2).bind fun t127 => (if t127 = true then (if a1_0 < 0 then (leveeref06_Right.j0 k true a0_0 a0_1 a0_2 a1_0 l1_1 l1_2) else (if a1_0 ≥ a0_2 then (leveeref06_Right.j0 k true a0_0 a0_1 a0_2 a1_0 l1_1 l1_2) else (if (l1_1.length : Int) = 16 then (leveeref06_Right.j0 k ((l1_2.length : Int) != 8) a0_0 a0_1 a0_2 a1_0 l1_1 l1_2) else (leveeref06_Right.j0 k true a0_0 a0_1 a0_2 a1_0 l1_1 l1_2)))) else (leveeref06_Right.j0 k true a0_0 a0_1 a0_2 a1_0 l1_1 l1_2))
end Go.Proofs.Ytonkgfgciegknaa.P
