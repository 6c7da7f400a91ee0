-- PRINTED by print.py (a twelfth state) out of the translation. Not trusted: Lean checks it.
import Derived.Test.YthcndfnmgggblaaPx0
import Derived.Test.YthcndfnmgggblaaPx1
import Derived.Test.YthcndfnmgggblaaPx3
import Derived.Test.YthcndfnmgggblaaPx4
import Derived.Test.YthcndfnmgggblaaPx6
import Derived.Test.YthcndfnmgggblaaPx8
import Derived.Test.YthcndfnmgggblaaPx14
import Derived.Test.YthcndfnmgggblaaHand
import Derived.Test.YthcndfnmgggblaaHandInode
import Derived.Test.YthcndfnmgggblaaHandGet
import Derived.Test.YthcndfnmgggblaaHandInode2
import Derived.Test.YthcndfnmgggblaaCells
import Derived.Test.YthcndfnmgggblaaSettle
namespace Go.Proofs.Ythcndfnmgggblaa.P
open Go.RowKit Go.Proofs.YthcndfnmgggblaaW.PrintWords Go.Proofs.YthcndfnmgggblaaW.PrintLast Go.Proofs.YthcndfnmgggblaaW.PrintMore
attribute [local go_sem] max2_int min2_int max_two min_two max_three min_three max_four min_four   -- for this text's walks alone
set_option linter.unusedVariables false
set_option linter.unusedSimpArgs false

attribute [local go_sem high] eqA24
/-! ### leveelaw07_InodeBytes: function 3 -/
def leveelaw07_InodeBytes.f (k : Nat) (a0_0 : Int) (a0_1 : Int) (a0_2 : Int) (a0_3 : Int) (a0_4 : Int) (a0_5 : Int) (a0_6 : Int) (a0_7 : Int) (a0_8 : Int) (a0_9 : Int) (a0_10 : Int) (a0_11 : Int) (l1 : List Int) : Option (Bool) := (inode_Put.f k a0_0 a0_1 a0_2 a0_3 a0_4 a0_5 a0_6 a0_7 a0_8 a0_9 a0_10 a0_11).bind fun bt287 => ((leveeref07_Put.f k a0_0 a0_1 a0_2 a0_3 a0_4 a0_5 a0_6 a0_7 a0_8 a0_9 a0_10 a0_11).bind fun bt291 => ((leveeref01_Lent.f l1).bind fun t295 => ((inode_Get.f k t295).bind fun bt298 => ((leveeref07_Get.f k l1).bind fun bt312 => (if (strOfNums bt287.1).toList = (strOfNums bt291.1).toList then (if bt287.2 = bt291.2 then (if (!(bt298.1 == bt312.1) || (!(bt298.2.1 == bt312.2.1) || (!(bt298.2.2.1 == bt312.2.2.1) || (!(bt298.2.2.2.1 == bt312.2.2.2.1) || ((!(bt298.2.2.2.2.1 == bt312.2.2.2.2.1) || (!(bt298.2.2.2.2.2.1 == bt312.2.2.2.2.2.1) || (!(bt298.2.2.2.2.2.2.1 == bt312.2.2.2.2.2.2.1) || (!(bt298.2.2.2.2.2.2.2.1 == bt312.2.2.2.2.2.2.2.1) || (!(bt298.2.2.2.2.2.2.2.2.1 == bt312.2.2.2.2.2.2.2.2.1) || (!(bt298.2.2.2.2.2.2.2.2.2.1 == bt312.2.2.2.2.2.2.2.2.2.1))))))) || (!(bt298.2.2.2.2.2.2.2.2.2.2.1 == bt312.2.2.2.2.2.2.2.2.2.2.1) || (!(bt298.2.2.2.2.2.2.2.2.2.2.2.1 == bt312.2.2.2.2.2.2.2.2.2.2.2.1)))))))) = true then (none) else (if bt298.2.2.2.2.2.2.2.2.2.2.2.2 = bt312.2.2.2.2.2.2.2.2.2.2.2.2 then ((inode_Right.f k a0_0 a0_1 a0_2 a0_3 a0_4 a0_5 a0_6 a0_7 a0_8 a0_9 a0_10 a0_11).bind fun t326 => ((leveeref07_Right.f k a0_0 a0_1 a0_2 a0_3 a0_4 a0_5 a0_6 a0_7 a0_8 a0_9 a0_10 a0_11).bind fun t327 => (if (t326 != t327) = true then (none) else ((leveeref01_Kept.f t295 l1).bind fun t328 => (if t328 = true then (if bt291.2 = 0 then ((inode_Get.f k bt287.1).bind fun bt329 => (if (bt329.1 == a0_0 && (bt329.2.1 == a0_1 && (bt329.2.2.1 == a0_2 && (bt329.2.2.2.1 == a0_3 && ((bt329.2.2.2.2.1 == a0_4 && (bt329.2.2.2.2.2.1 == a0_5 && (bt329.2.2.2.2.2.2.1 == a0_6 && (bt329.2.2.2.2.2.2.2.1 == a0_7 && (bt329.2.2.2.2.2.2.2.2.1 == a0_8 && (bt329.2.2.2.2.2.2.2.2.2.1 == a0_9)))))) && (bt329.2.2.2.2.2.2.2.2.2.2.1 == a0_10 && (bt329.2.2.2.2.2.2.2.2.2.2.2.1 == a0_11))))))) = true then (if bt329.2.2.2.2.2.2.2.2.2.2.2.2 = 0 then ((leveelaw07_known.f k).bind fun t343 => (some t343)) else (none)) else (none))) else ((leveelaw07_known.f k).bind fun t344 => (some t344))) else (none)))))) else (none))) else (none)) else (none))))))
theorem leveelaw07_InodeBytes.mono : ∀ a0 a1 a2 a3 a4 a5 a6 a7 a8 a9 a10 a11 a12 k, LeO (leveelaw07_InodeBytes.f k a0 a1 a2 a3 a4 a5 a6 a7 a8 a9 a10 a11 a12) (leveelaw07_InodeBytes.f (k + 1) a0 a1 a2 a3 a4 a5 a6 a7 a8 a9 a10 a11 a12) := by
 intro a0 a1 a2 a3 a4 a5 a6 a7 a8 a9 a10 a11 a12 k
 unfold leveelaw07_InodeBytes.f
 repeat' first
   | (with_reducible exact inode_Get.mono _ _)
   | (with_reducible exact inode_Put.mono _ _ _ _ _ _ _ _ _ _ _ _ _)
   | (with_reducible exact inode_Right.mono _ _ _ _ _ _ _ _ _ _ _ _ _)
   | (with_reducible exact leveelaw07_known.mono _)
   | (with_reducible exact leveeref07_Get.mono _ _)
   | (with_reducible exact leveeref07_Put.mono _ _ _ _ _ _ _ _ _ _ _ _ _)
   | (with_reducible exact leveeref07_Right.mono _ _ _ _ _ _ _ _ _ _ _ _ _)
   | (with_reducible exact LeO.refl _)
   | (with_reducible exact LeO.none _)
   | (with_reducible refine LeO.ite ?_ ?_)
   | (with_reducible refine LeO.bind ?_ (fun _ => ?_))
   | exact inode_Get.mono _ _
   | exact inode_Put.mono _ _ _ _ _ _ _ _ _ _ _ _ _
   | exact inode_Right.mono _ _ _ _ _ _ _ _ _ _ _ _ _
   | exact leveelaw07_known.mono _
   | exact leveeref07_Get.mono _ _
   | exact leveeref07_Put.mono _ _ _ _ _ _ _ _ _ _ _ _ _
   | exact leveeref07_Right.mono _ _ _ _ _ _ _ _ _ _ _ _ _
   | exact LeO.none _
   | refine LeO.ite ?_ ?_
   | refine LeO.bind ?_ (fun _ => ?_)
def leveelaw07_InodeBytes.T6 : Bool × List (List Nat × List Nat) := (true, [([], []), ([0], [0]), ([], []), ([2], [2]), ([1, 3], [1, 3]), ([4], [4]), ([5], [5]), ([5], [5]), ([6, 7, 5], [5, 6, 7]), ([5, 8], [5, 8]), ([9, 5], [9]), ([10], [10]), ([10], [10]), ([11, 12, 10], [10, 11, 12]), ([10, 13], [10, 13]), ([14, 10], [14]), ([15], [15]), ([15], [15]), ([16, 17, 15], [15, 16, 17]), ([15, 18], [15, 18]), ([19, 15], [19]), ([20], [20]), ([21, 20, 20], [20, 21]), ([20], [20]), ([23, 22, 20], [20, 23]), ([22, 24, 20], [20, 22, 24]), ([20, 25], [20, 25]), ([26, 24], [26]), ([27], [27]), ([27], [27]), ([28, 29, 27, 27], [27, 28, 29]), ([30, 27], [27, 30]), ([27, 31], [27, 31])])
def leveelaw07_InodeBytes.B6 : List Nat := [0, 1, 0, 4, 15, 31, 63, 63, 255, 511, 1023, 2047, 2047, 8191, 16383, 32767, 65535, 65535, 262143, 524287, 1048575, 2097151, 4194303, 2097151, 16777215, 33554431, 67108863, 134217727, 268435455, 268435455, 1073741823, 2147483647, 4294967295]
theorem leveelaw07_InodeBytes.tab6 : rtab .any (opsOf Try.f3 6) = leveelaw07_InodeBytes.T6 := by kernel_rfl
theorem leveelaw07_InodeBytes.bits6 : waitsOk leveelaw07_InodeBytes.T6.2 leveelaw07_InodeBytes.B6 = true := by kernel_rfl
set_option maxHeartbeats 8000000 in
set_option maxRecDepth 100000 in
theorem leveelaw07_InodeBytes.calls (k : Nat) (a0_0 : Int) (a0_1 : Int) (a0_2 : Int) (a0_3 : Int) (a0_4 : Int) (a0_5 : Int) (a0_6 : Int) (a0_7 : Int) (a0_8 : Int) (a0_9 : Int) (a0_10 : Int) (a0_11 : Int) (A1 : Option Addr) (c1 : Nat) (l1 : List Int) (r : Bool) (w : World) (hr1 : Kd.C (Kd.int .u8) w A1 l1.length l1) (hc1 : l1.length ≤ c1) (h : leveelaw07_InodeBytes.f k a0_0 a0_1 a0_2 a0_3 a0_4 a0_5 a0_6 a0_7 a0_8 a0_9 a0_10 a0_11 l1 = some r) :
  Calls Try.prog 3 #[.agg #[.int .i64 a0_0, .int .i64 a0_1, .int .i64 a0_2, .int .i64 a0_3, .int .i64 a0_4, .int .i64 a0_5, .int .i64 a0_6, .int .i64 a0_7, .int .i64 a0_8, .int .i64 a0_9, .int .i64 a0_10, .int .i64 a0_11], .slice A1 l1.length c1] w fun e w' => e = .returned (.bool r) ∧ Below w.heap.size w w' := by
 have hu24 := Try.underlying24
 have HR1 := Aside0.mk hr1
 have HC1 := Aside0.mk hc1
 clear hr1 hc1
 have HB := Aside0.mk (Below.refl w.heap.size w)
 have H : ((inode_Put.f k a0_0 a0_1 a0_2 a0_3 a0_4 a0_5 a0_6 a0_7 a0_8 a0_9 a0_10 a0_11).bind fun bt287 => ((leveeref07_Put.f k a0_0 a0_1 a0_2 a0_3 a0_4 a0_5 a0_6 a0_7 a0_8 a0_9 a0_10 a0_11).bind fun bt291 => ((leveeref01_Lent.f l1).bind fun t295 => ((inode_Get.f k t295).bind fun bt298 => ((leveeref07_Get.f k l1).bind fun bt312 => (if (strOfNums bt287.1).toList = (strOfNums bt291.1).toList then (if bt287.2 = bt291.2 then (if (!(bt298.1 == bt312.1) || (!(bt298.2.1 == bt312.2.1) || (!(bt298.2.2.1 == bt312.2.2.1) || (!(bt298.2.2.2.1 == bt312.2.2.2.1) || ((!(bt298.2.2.2.2.1 == bt312.2.2.2.2.1) || (!(bt298.2.2.2.2.2.1 == bt312.2.2.2.2.2.1) || (!(bt298.2.2.2.2.2.2.1 == bt312.2.2.2.2.2.2.1) || (!(bt298.2.2.2.2.2.2.2.1 == bt312.2.2.2.2.2.2.2.1) || (!(bt298.2.2.2.2.2.2.2.2.1 == bt312.2.2.2.2.2.2.2.2.1) || (!(bt298.2.2.2.2.2.2.2.2.2.1 == bt312.2.2.2.2.2.2.2.2.2.1))))))) || (!(bt298.2.2.2.2.2.2.2.2.2.2.1 == bt312.2.2.2.2.2.2.2.2.2.2.1) || (!(bt298.2.2.2.2.2.2.2.2.2.2.2.1 == bt312.2.2.2.2.2.2.2.2.2.2.2.1)))))))) = true then (none) else (if bt298.2.2.2.2.2.2.2.2.2.2.2.2 = bt312.2.2.2.2.2.2.2.2.2.2.2.2 then ((inode_Right.f k a0_0 a0_1 a0_2 a0_3 a0_4 a0_5 a0_6 a0_7 a0_8 a0_9 a0_10 a0_11).bind fun t326 => ((leveeref07_Right.f k a0_0 a0_1 a0_2 a0_3 a0_4 a0_5 a0_6 a0_7 a0_8 a0_9 a0_10 a0_11).bind fun t327 => (if (t326 != t327) = true then (none) else ((leveeref01_Kept.f t295 l1).bind fun t328 => (if t328 = true then (if bt291.2 = 0 then ((inode_Get.f k bt287.1).bind fun bt329 => (if (bt329.1 == a0_0 && (bt329.2.1 == a0_1 && (bt329.2.2.1 == a0_2 && (bt329.2.2.2.1 == a0_3 && ((bt329.2.2.2.2.1 == a0_4 && (bt329.2.2.2.2.2.1 == a0_5 && (bt329.2.2.2.2.2.2.1 == a0_6 && (bt329.2.2.2.2.2.2.2.1 == a0_7 && (bt329.2.2.2.2.2.2.2.2.1 == a0_8 && (bt329.2.2.2.2.2.2.2.2.2.1 == a0_9)))))) && (bt329.2.2.2.2.2.2.2.2.2.2.1 == a0_10 && (bt329.2.2.2.2.2.2.2.2.2.2.2.1 == a0_11))))))) = true then (if bt329.2.2.2.2.2.2.2.2.2.2.2.2 = 0 then ((leveelaw07_known.f k).bind fun t343 => (some t343)) else (none)) else (none))) else ((leveelaw07_known.f k).bind fun t344 => (some t344))) else (none)))))) else (none))) else (none)) else (none))))))) = some r := h
 clear h
 replace H := Option.bind_eq_some_iff.mp H
 obtain ⟨⟨t287, t290⟩, A30, H⟩ := H
 replace H : ((leveeref07_Put.f k a0_0 a0_1 a0_2 a0_3 a0_4 a0_5 a0_6 a0_7 a0_8 a0_9 a0_10 a0_11).bind fun bt291 => ((leveeref01_Lent.f l1).bind fun t295 => ((inode_Get.f k t295).bind fun bt298 => ((leveeref07_Get.f k l1).bind fun bt312 => (if (strOfNums t287).toList = (strOfNums bt291.1).toList then (if t290 = bt291.2 then (if (!(bt298.1 == bt312.1) || (!(bt298.2.1 == bt312.2.1) || (!(bt298.2.2.1 == bt312.2.2.1) || (!(bt298.2.2.2.1 == bt312.2.2.2.1) || ((!(bt298.2.2.2.2.1 == bt312.2.2.2.2.1) || (!(bt298.2.2.2.2.2.1 == bt312.2.2.2.2.2.1) || (!(bt298.2.2.2.2.2.2.1 == bt312.2.2.2.2.2.2.1) || (!(bt298.2.2.2.2.2.2.2.1 == bt312.2.2.2.2.2.2.2.1) || (!(bt298.2.2.2.2.2.2.2.2.1 == bt312.2.2.2.2.2.2.2.2.1) || (!(bt298.2.2.2.2.2.2.2.2.2.1 == bt312.2.2.2.2.2.2.2.2.2.1))))))) || (!(bt298.2.2.2.2.2.2.2.2.2.2.1 == bt312.2.2.2.2.2.2.2.2.2.2.1) || (!(bt298.2.2.2.2.2.2.2.2.2.2.2.1 == bt312.2.2.2.2.2.2.2.2.2.2.2.1)))))))) = true then (none) else (if bt298.2.2.2.2.2.2.2.2.2.2.2.2 = bt312.2.2.2.2.2.2.2.2.2.2.2.2 then ((inode_Right.f k a0_0 a0_1 a0_2 a0_3 a0_4 a0_5 a0_6 a0_7 a0_8 a0_9 a0_10 a0_11).bind fun t326 => ((leveeref07_Right.f k a0_0 a0_1 a0_2 a0_3 a0_4 a0_5 a0_6 a0_7 a0_8 a0_9 a0_10 a0_11).bind fun t327 => (if (t326 != t327) = true then (none) else ((leveeref01_Kept.f t295 l1).bind fun t328 => (if t328 = true then (if bt291.2 = 0 then ((inode_Get.f k t287).bind fun bt329 => (if (bt329.1 == a0_0 && (bt329.2.1 == a0_1 && (bt329.2.2.1 == a0_2 && (bt329.2.2.2.1 == a0_3 && ((bt329.2.2.2.2.1 == a0_4 && (bt329.2.2.2.2.2.1 == a0_5 && (bt329.2.2.2.2.2.2.1 == a0_6 && (bt329.2.2.2.2.2.2.2.1 == a0_7 && (bt329.2.2.2.2.2.2.2.2.1 == a0_8 && (bt329.2.2.2.2.2.2.2.2.2.1 == a0_9)))))) && (bt329.2.2.2.2.2.2.2.2.2.2.1 == a0_10 && (bt329.2.2.2.2.2.2.2.2.2.2.2.1 == a0_11))))))) = true then (if bt329.2.2.2.2.2.2.2.2.2.2.2.2 = 0 then ((leveelaw07_known.f k).bind fun t343 => (some t343)) else (none)) else (none))) else ((leveelaw07_known.f k).bind fun t344 => (some t344))) else (none)))))) else (none))) else (none)) else (none)))))) = some r := H
 have A3 := Aside0.mk A30
 clear A30
 replace H := Option.bind_eq_some_iff.mp H
 obtain ⟨⟨t291, t294⟩, A40, H⟩ := H
 replace H : ((leveeref01_Lent.f l1).bind fun t295 => ((inode_Get.f k t295).bind fun bt298 => ((leveeref07_Get.f k l1).bind fun bt312 => (if (strOfNums t287).toList = (strOfNums t291).toList then (if t290 = t294 then (if (!(bt298.1 == bt312.1) || (!(bt298.2.1 == bt312.2.1) || (!(bt298.2.2.1 == bt312.2.2.1) || (!(bt298.2.2.2.1 == bt312.2.2.2.1) || ((!(bt298.2.2.2.2.1 == bt312.2.2.2.2.1) || (!(bt298.2.2.2.2.2.1 == bt312.2.2.2.2.2.1) || (!(bt298.2.2.2.2.2.2.1 == bt312.2.2.2.2.2.2.1) || (!(bt298.2.2.2.2.2.2.2.1 == bt312.2.2.2.2.2.2.2.1) || (!(bt298.2.2.2.2.2.2.2.2.1 == bt312.2.2.2.2.2.2.2.2.1) || (!(bt298.2.2.2.2.2.2.2.2.2.1 == bt312.2.2.2.2.2.2.2.2.2.1))))))) || (!(bt298.2.2.2.2.2.2.2.2.2.2.1 == bt312.2.2.2.2.2.2.2.2.2.2.1) || (!(bt298.2.2.2.2.2.2.2.2.2.2.2.1 == bt312.2.2.2.2.2.2.2.2.2.2.2.1)))))))) = true then (none) else (if bt298.2.2.2.2.2.2.2.2.2.2.2.2 = bt312.2.2.2.2.2.2.2.2.2.2.2.2 then ((inode_Right.f k a0_0 a0_1 a0_2 a0_3 a0_4 a0_5 a0_6 a0_7 a0_8 a0_9 a0_10 a0_11).bind fun t326 => ((leveeref07_Right.f k a0_0 a0_1 a0_2 a0_3 a0_4 a0_5 a0_6 a0_7 a0_8 a0_9 a0_10 a0_11).bind fun t327 => (if (t326 != t327) = true then (none) else ((leveeref01_Kept.f t295 l1).bind fun t328 => (if t328 = true then (if t294 = 0 then ((inode_Get.f k t287).bind fun bt329 => (if (bt329.1 == a0_0 && (bt329.2.1 == a0_1 && (bt329.2.2.1 == a0_2 && (bt329.2.2.2.1 == a0_3 && ((bt329.2.2.2.2.1 == a0_4 && (bt329.2.2.2.2.2.1 == a0_5 && (bt329.2.2.2.2.2.2.1 == a0_6 && (bt329.2.2.2.2.2.2.2.1 == a0_7 && (bt329.2.2.2.2.2.2.2.2.1 == a0_8 && (bt329.2.2.2.2.2.2.2.2.2.1 == a0_9)))))) && (bt329.2.2.2.2.2.2.2.2.2.2.1 == a0_10 && (bt329.2.2.2.2.2.2.2.2.2.2.2.1 == a0_11))))))) = true then (if bt329.2.2.2.2.2.2.2.2.2.2.2.2 = 0 then ((leveelaw07_known.f k).bind fun t343 => (some t343)) else (none)) else (none))) else ((leveelaw07_known.f k).bind fun t344 => (some t344))) else (none)))))) else (none))) else (none)) else (none))))) = some r := H
 have A4 := Aside0.mk A40
 clear A40
 replace H := Option.bind_eq_some_iff.mp H
 obtain ⟨t295, A50, H⟩ := H
 replace H : ((inode_Get.f k t295).bind fun bt298 => ((leveeref07_Get.f k l1).bind fun bt312 => (if (strOfNums t287).toList = (strOfNums t291).toList then (if t290 = t294 then (if (!(bt298.1 == bt312.1) || (!(bt298.2.1 == bt312.2.1) || (!(bt298.2.2.1 == bt312.2.2.1) || (!(bt298.2.2.2.1 == bt312.2.2.2.1) || ((!(bt298.2.2.2.2.1 == bt312.2.2.2.2.1) || (!(bt298.2.2.2.2.2.1 == bt312.2.2.2.2.2.1) || (!(bt298.2.2.2.2.2.2.1 == bt312.2.2.2.2.2.2.1) || (!(bt298.2.2.2.2.2.2.2.1 == bt312.2.2.2.2.2.2.2.1) || (!(bt298.2.2.2.2.2.2.2.2.1 == bt312.2.2.2.2.2.2.2.2.1) || (!(bt298.2.2.2.2.2.2.2.2.2.1 == bt312.2.2.2.2.2.2.2.2.2.1))))))) || (!(bt298.2.2.2.2.2.2.2.2.2.2.1 == bt312.2.2.2.2.2.2.2.2.2.2.1) || (!(bt298.2.2.2.2.2.2.2.2.2.2.2.1 == bt312.2.2.2.2.2.2.2.2.2.2.2.1)))))))) = true then (none) else (if bt298.2.2.2.2.2.2.2.2.2.2.2.2 = bt312.2.2.2.2.2.2.2.2.2.2.2.2 then ((inode_Right.f k a0_0 a0_1 a0_2 a0_3 a0_4 a0_5 a0_6 a0_7 a0_8 a0_9 a0_10 a0_11).bind fun t326 => ((leveeref07_Right.f k a0_0 a0_1 a0_2 a0_3 a0_4 a0_5 a0_6 a0_7 a0_8 a0_9 a0_10 a0_11).bind fun t327 => (if (t326 != t327) = true then (none) else ((leveeref01_Kept.f t295 l1).bind fun t328 => (if t328 = true then (if t294 = 0 then ((inode_Get.f k t287).bind fun bt329 => (if (bt329.1 == a0_0 && (bt329.2.1 == a0_1 && (bt329.2.2.1 == a0_2 && (bt329.2.2.2.1 == a0_3 && ((bt329.2.2.2.2.1 == a0_4 && (bt329.2.2.2.2.2.1 == a0_5 && (bt329.2.2.2.2.2.2.1 == a0_6 && (bt329.2.2.2.2.2.2.2.1 == a0_7 && (bt329.2.2.2.2.2.2.2.2.1 == a0_8 && (bt329.2.2.2.2.2.2.2.2.2.1 == a0_9)))))) && (bt329.2.2.2.2.2.2.2.2.2.2.1 == a0_10 && (bt329.2.2.2.2.2.2.2.2.2.2.2.1 == a0_11))))))) = true then (if bt329.2.2.2.2.2.2.2.2.2.2.2.2 = 0 then ((leveelaw07_known.f k).bind fun t343 => (some t343)) else (none)) else (none))) else ((leveelaw07_known.f k).bind fun t344 => (some t344))) else (none)))))) else (none))) else (none)) else (none)))) = some r := H
 have A5 := Aside0.mk A50
 clear A50
 replace H := Option.bind_eq_some_iff.mp H
 obtain ⟨⟨t298, t299, t300, t301, t302, t303, t304, t305, t306, t307, t308, t309, t310⟩, A60, H⟩ := H
 replace H : ((leveeref07_Get.f k l1).bind fun bt312 => (if (strOfNums t287).toList = (strOfNums t291).toList then (if t290 = t294 then (if (!(t298 == bt312.1) || (!(t299 == bt312.2.1) || (!(t300 == bt312.2.2.1) || (!(t301 == bt312.2.2.2.1) || ((!(t302 == bt312.2.2.2.2.1) || (!(t303 == bt312.2.2.2.2.2.1) || (!(t304 == bt312.2.2.2.2.2.2.1) || (!(t305 == bt312.2.2.2.2.2.2.2.1) || (!(t306 == bt312.2.2.2.2.2.2.2.2.1) || (!(t307 == bt312.2.2.2.2.2.2.2.2.2.1))))))) || (!(t308 == bt312.2.2.2.2.2.2.2.2.2.2.1) || (!(t309 == bt312.2.2.2.2.2.2.2.2.2.2.2.1)))))))) = true then (none) else (if t310 = bt312.2.2.2.2.2.2.2.2.2.2.2.2 then ((inode_Right.f k a0_0 a0_1 a0_2 a0_3 a0_4 a0_5 a0_6 a0_7 a0_8 a0_9 a0_10 a0_11).bind fun t326 => ((leveeref07_Right.f k a0_0 a0_1 a0_2 a0_3 a0_4 a0_5 a0_6 a0_7 a0_8 a0_9 a0_10 a0_11).bind fun t327 => (if (t326 != t327) = true then (none) else ((leveeref01_Kept.f t295 l1).bind fun t328 => (if t328 = true then (if t294 = 0 then ((inode_Get.f k t287).bind fun bt329 => (if (bt329.1 == a0_0 && (bt329.2.1 == a0_1 && (bt329.2.2.1 == a0_2 && (bt329.2.2.2.1 == a0_3 && ((bt329.2.2.2.2.1 == a0_4 && (bt329.2.2.2.2.2.1 == a0_5 && (bt329.2.2.2.2.2.2.1 == a0_6 && (bt329.2.2.2.2.2.2.2.1 == a0_7 && (bt329.2.2.2.2.2.2.2.2.1 == a0_8 && (bt329.2.2.2.2.2.2.2.2.2.1 == a0_9)))))) && (bt329.2.2.2.2.2.2.2.2.2.2.1 == a0_10 && (bt329.2.2.2.2.2.2.2.2.2.2.2.1 == a0_11))))))) = true then (if bt329.2.2.2.2.2.2.2.2.2.2.2.2 = 0 then ((leveelaw07_known.f k).bind fun t343 => (some t343)) else (none)) else (none))) else ((leveelaw07_known.f k).bind fun t344 => (some t344))) else (none)))))) else (none))) else (none)) else (none))) = some r := H
 have A6 := Aside0.mk A60
 clear A60
 replace H := Option.bind_eq_some_iff.mp H
 obtain ⟨⟨t312, t313, t314, t315, t316, t317, t318, t319, t320, t321, t322, t323, t324⟩, A70, H⟩ := H
 replace H : (if (strOfNums t287).toList = (strOfNums t291).toList then (if t290 = t294 then (if (!(t298 == t312) || (!(t299 == t313) || (!(t300 == t314) || (!(t301 == t315) || ((!(t302 == t316) || (!(t303 == t317) || (!(t304 == t318) || (!(t305 == t319) || (!(t306 == t320) || (!(t307 == t321))))))) || (!(t308 == t322) || (!(t309 == t323)))))))) = true then (none) else (if t310 = t324 then ((inode_Right.f k a0_0 a0_1 a0_2 a0_3 a0_4 a0_5 a0_6 a0_7 a0_8 a0_9 a0_10 a0_11).bind fun t326 => ((leveeref07_Right.f k a0_0 a0_1 a0_2 a0_3 a0_4 a0_5 a0_6 a0_7 a0_8 a0_9 a0_10 a0_11).bind fun t327 => (if (t326 != t327) = true then (none) else ((leveeref01_Kept.f t295 l1).bind fun t328 => (if t328 = true then (if t294 = 0 then ((inode_Get.f k t287).bind fun bt329 => (if (bt329.1 == a0_0 && (bt329.2.1 == a0_1 && (bt329.2.2.1 == a0_2 && (bt329.2.2.2.1 == a0_3 && ((bt329.2.2.2.2.1 == a0_4 && (bt329.2.2.2.2.2.1 == a0_5 && (bt329.2.2.2.2.2.2.1 == a0_6 && (bt329.2.2.2.2.2.2.2.1 == a0_7 && (bt329.2.2.2.2.2.2.2.2.1 == a0_8 && (bt329.2.2.2.2.2.2.2.2.2.1 == a0_9)))))) && (bt329.2.2.2.2.2.2.2.2.2.2.1 == a0_10 && (bt329.2.2.2.2.2.2.2.2.2.2.2.1 == a0_11))))))) = true then (if bt329.2.2.2.2.2.2.2.2.2.2.2.2 = 0 then ((leveelaw07_known.f k).bind fun t343 => (some t343)) else (none)) else (none))) else ((leveelaw07_known.f k).bind fun t344 => (some t344))) else (none)))))) else (none))) else (none)) else (none)) = some r := H
 have A7 := Aside0.mk A70
 clear A70
 by_cases c8 : (strOfNums t287).toList = (strOfNums t291).toList
 ·rw [if_pos c8] at H
  have c8b0 : ((strOfNums t287).toList == (strOfNums t291).toList) = true := beq_iff_eq.mpr c8
  have c8b1 : ((strOfNums t287).toList != (strOfNums t291).toList) = false := bne_eq_false_iff_eq.mpr c8
  clear c8
  by_cases c9 : t290 = t294
  ·rw [if_pos c9] at H
   have c9b0 : (t290 == t294) = true := beq_iff_eq.mpr c9
   have c9b1 : (t290 != t294) = false := bne_eq_false_iff_eq.mpr c9
   clear c9
   by_cases c10 : (!(t298 == t312) || (!(t299 == t313) || (!(t300 == t314) || (!(t301 == t315) || ((!(t302 == t316) || (!(t303 == t317) || (!(t304 == t318) || (!(t305 == t319) || (!(t306 == t320) || (!(t307 == t321))))))) || (!(t308 == t322) || (!(t309 == t323)))))))) = true
   ·rw [if_pos c10] at H
    exact absurd H (by simp)
   ·rw [if_neg c10] at H
    have c10b0 : (!(t298 == t312) || (!(t299 == t313) || (!(t300 == t314) || (!(t301 == t315) || ((!(t302 == t316) || (!(t303 == t317) || (!(t304 == t318) || (!(t305 == t319) || (!(t306 == t320) || (!(t307 == t321))))))) || (!(t308 == t322) || (!(t309 == t323)))))))) = false := by simpa using c10
    clear c10
    by_cases c11 : t310 = t324
    ·rw [if_pos c11] at H
     have c11b0 : (t310 == t324) = true := beq_iff_eq.mpr c11
     have c11b1 : (t310 != t324) = false := bne_eq_false_iff_eq.mpr c11
     clear c11
     replace H := Option.bind_eq_some_iff.mp H
     obtain ⟨t326, A120, H⟩ := H
     replace H : ((leveeref07_Right.f k a0_0 a0_1 a0_2 a0_3 a0_4 a0_5 a0_6 a0_7 a0_8 a0_9 a0_10 a0_11).bind fun t327 => (if (t326 != t327) = true then (none) else ((leveeref01_Kept.f t295 l1).bind fun t328 => (if t328 = true then (if t294 = 0 then ((inode_Get.f k t287).bind fun bt329 => (if (bt329.1 == a0_0 && (bt329.2.1 == a0_1 && (bt329.2.2.1 == a0_2 && (bt329.2.2.2.1 == a0_3 && ((bt329.2.2.2.2.1 == a0_4 && (bt329.2.2.2.2.2.1 == a0_5 && (bt329.2.2.2.2.2.2.1 == a0_6 && (bt329.2.2.2.2.2.2.2.1 == a0_7 && (bt329.2.2.2.2.2.2.2.2.1 == a0_8 && (bt329.2.2.2.2.2.2.2.2.2.1 == a0_9)))))) && (bt329.2.2.2.2.2.2.2.2.2.2.1 == a0_10 && (bt329.2.2.2.2.2.2.2.2.2.2.2.1 == a0_11))))))) = true then (if bt329.2.2.2.2.2.2.2.2.2.2.2.2 = 0 then ((leveelaw07_known.f k).bind fun t343 => (some t343)) else (none)) else (none))) else ((leveelaw07_known.f k).bind fun t344 => (some t344))) else (none))))) = some r := H
     have A12 := Aside0.mk A120
     clear A120
     replace H := Option.bind_eq_some_iff.mp H
     obtain ⟨t327, A130, H⟩ := H
     replace H : (if (t326 != t327) = true then (none) else ((leveeref01_Kept.f t295 l1).bind fun t328 => (if t328 = true then (if t294 = 0 then ((inode_Get.f k t287).bind fun bt329 => (if (bt329.1 == a0_0 && (bt329.2.1 == a0_1 && (bt329.2.2.1 == a0_2 && (bt329.2.2.2.1 == a0_3 && ((bt329.2.2.2.2.1 == a0_4 && (bt329.2.2.2.2.2.1 == a0_5 && (bt329.2.2.2.2.2.2.1 == a0_6 && (bt329.2.2.2.2.2.2.2.1 == a0_7 && (bt329.2.2.2.2.2.2.2.2.1 == a0_8 && (bt329.2.2.2.2.2.2.2.2.2.1 == a0_9)))))) && (bt329.2.2.2.2.2.2.2.2.2.2.1 == a0_10 && (bt329.2.2.2.2.2.2.2.2.2.2.2.1 == a0_11))))))) = true then (if bt329.2.2.2.2.2.2.2.2.2.2.2.2 = 0 then ((leveelaw07_known.f k).bind fun t343 => (some t343)) else (none)) else (none))) else ((leveelaw07_known.f k).bind fun t344 => (some t344))) else (none)))) = some r := H
     have A13 := Aside0.mk A130
     clear A130
     by_cases c14 : (t326 != t327) = true
     ·rw [if_pos c14] at H
      exact absurd H (by simp)
     ·rw [if_neg c14] at H
      have c14b0 : (t326 != t327) = false := by simpa using c14
      (try (have c14b1 : decide (t326 = t327) = true := by simpa using c14))
      (try (have c14b2 : (t326 == t327) = true := by simpa using c14))
      clear c14
      replace H := Option.bind_eq_some_iff.mp H
      obtain ⟨t328, A150, H⟩ := H
      replace H : (if t328 = true then (if t294 = 0 then ((inode_Get.f k t287).bind fun bt329 => (if (bt329.1 == a0_0 && (bt329.2.1 == a0_1 && (bt329.2.2.1 == a0_2 && (bt329.2.2.2.1 == a0_3 && ((bt329.2.2.2.2.1 == a0_4 && (bt329.2.2.2.2.2.1 == a0_5 && (bt329.2.2.2.2.2.2.1 == a0_6 && (bt329.2.2.2.2.2.2.2.1 == a0_7 && (bt329.2.2.2.2.2.2.2.2.1 == a0_8 && (bt329.2.2.2.2.2.2.2.2.2.1 == a0_9)))))) && (bt329.2.2.2.2.2.2.2.2.2.2.1 == a0_10 && (bt329.2.2.2.2.2.2.2.2.2.2.2.1 == a0_11))))))) = true then (if bt329.2.2.2.2.2.2.2.2.2.2.2.2 = 0 then ((leveelaw07_known.f k).bind fun t343 => (some t343)) else (none)) else (none))) else ((leveelaw07_known.f k).bind fun t344 => (some t344))) else (none)) = some r := H
      have A15 := Aside0.mk A150
      clear A150
      by_cases c16 : t328 = true
      ·subst c16
       have H1 : (if t294 = 0 then ((inode_Get.f k t287).bind fun bt329 => (if (bt329.1 == a0_0 && (bt329.2.1 == a0_1 && (bt329.2.2.1 == a0_2 && (bt329.2.2.2.1 == a0_3 && ((bt329.2.2.2.2.1 == a0_4 && (bt329.2.2.2.2.2.1 == a0_5 && (bt329.2.2.2.2.2.2.1 == a0_6 && (bt329.2.2.2.2.2.2.2.1 == a0_7 && (bt329.2.2.2.2.2.2.2.2.1 == a0_8 && (bt329.2.2.2.2.2.2.2.2.2.1 == a0_9)))))) && (bt329.2.2.2.2.2.2.2.2.2.2.1 == a0_10 && (bt329.2.2.2.2.2.2.2.2.2.2.2.1 == a0_11))))))) = true then (if bt329.2.2.2.2.2.2.2.2.2.2.2.2 = 0 then ((leveelaw07_known.f k).bind fun t343 => (some t343)) else (none)) else (none))) else ((leveelaw07_known.f k).bind fun t344 => (some t344))) = some r := by rw [if_pos rfl] at H; exact H
       clear H
       have H := H1
       clear H1
       by_cases c17 : t294 = 0
       ·rw [if_pos c17] at H
        have c17b0 : (t294 == 0) = true := beq_iff_eq.mpr c17
        have c17b1 : (t294 != 0) = false := bne_eq_false_iff_eq.mpr c17
        clear c17
        replace H := Option.bind_eq_some_iff.mp H
        obtain ⟨⟨t329, t330, t331, t332, t333, t334, t335, t336, t337, t338, t339, t340, t341⟩, A180, H⟩ := H
        replace H : (if (t329 == a0_0 && (t330 == a0_1 && (t331 == a0_2 && (t332 == a0_3 && ((t333 == a0_4 && (t334 == a0_5 && (t335 == a0_6 && (t336 == a0_7 && (t337 == a0_8 && (t338 == a0_9)))))) && (t339 == a0_10 && (t340 == a0_11))))))) = true then (if t341 = 0 then ((leveelaw07_known.f k).bind fun t343 => (some t343)) else (none)) else (none)) = some r := H
        have A18 := Aside0.mk A180
        clear A180
        by_cases c19 : (t329 == a0_0 && (t330 == a0_1 && (t331 == a0_2 && (t332 == a0_3 && ((t333 == a0_4 && (t334 == a0_5 && (t335 == a0_6 && (t336 == a0_7 && (t337 == a0_8 && (t338 == a0_9)))))) && (t339 == a0_10 && (t340 == a0_11))))))) = true
        ·rw [if_pos c19] at H
         have c19b0 : (t329 == a0_0 && (t330 == a0_1 && (t331 == a0_2 && (t332 == a0_3 && ((t333 == a0_4 && (t334 == a0_5 && (t335 == a0_6 && (t336 == a0_7 && (t337 == a0_8 && (t338 == a0_9)))))) && (t339 == a0_10 && (t340 == a0_11))))))) = true := c19
         (try (have c19b1 : decide (t329 = a0_0 && (t330 == a0_1 && (t331 == a0_2 && (t332 == a0_3 && ((t333 == a0_4 && (t334 == a0_5 && (t335 == a0_6 && (t336 == a0_7 && (t337 == a0_8 && (t338 == a0_9)))))) && (t339 == a0_10 && (t340 == a0_11))))))) = true := by simpa using c19))
         (try (have c19b2 : (t329 == a0_0 && (t330 == a0_1 && (t331 == a0_2 && (t332 == a0_3 && ((t333 == a0_4 && (t334 == a0_5 && (t335 == a0_6 && (t336 == a0_7 && (t337 == a0_8 && (t338 == a0_9)))))) && (t339 == a0_10 && (t340 == a0_11))))))) = true := by simpa using c19))
         clear c19
         by_cases c20 : t341 = 0
         ·rw [if_pos c20] at H
          have c20b0 : (t341 == 0) = true := beq_iff_eq.mpr c20
          have c20b1 : (t341 != 0) = false := bne_eq_false_iff_eq.mpr c20
          clear c20
          replace H := Option.bind_eq_some_iff.mp H
          obtain ⟨t343, A210, H⟩ := H
          replace H : (some t343) = some r := H
          have A21 := Aside0.mk A210
          clear A210
          obtain rfl := Option.some.inj H
          go_enter Try.func3, Try.ntmps3
          try go_wp2_with (first | ((with_reducible refine gate_dst (N := 2) rfl ?_); refine box_event ?hg (N := 2) ?hd (cs := #[.int .i64 a0_0, .int .i64 a0_1, .int .i64 a0_2, .int .i64 a0_3, .int .i64 a0_4, .int .i64 a0_5, .int .i64 a0_6, .int .i64 a0_7, .int .i64 a0_8, .int .i64 a0_9, .int .i64 a0_10, .int .i64 a0_11]) (t := 24) ?hr ?_; (case hd => rfl); (case hg => rfl); (case hr => first | (go_simp; done) | (go_simp; rfl)); intro gb286 hg w22 hbox hb; have n0_ := Aside0.mk (below_step (by repeat (first | (with_reducible first | exact HB.out | apply below_alloc | apply pw_below_drewN | apply below_drew1) | exact HB.out)) hb); have n1_ := Aside0.mk (hbox); have n2_ := Aside0.mk ((by rw [hg]; exact (below_size (by repeat (first | (with_reducible first | exact HB.out | apply below_alloc | apply pw_below_drewN | apply below_drew1) | exact HB.out))) : w.heap.size ≤ gb286)); have n3_ := Aside0.mk ((by rw [hg]; exact (below_size (by repeat (first | (with_reducible first | exact HB.out | apply below_alloc | apply pw_below_drewN | apply below_drew1) | exact HB.out))) : w.heap.size ≤ gb286)); clear HB; have HB := n0_; have BK286 := n1_; have GW286 := n2_; have GE286 := n3_; clear n0_ n1_ n2_ n3_; clear hb hbox hg; have q_ := cells12 BK286.out; have hcz23_0 := q_.c0; have hcz23_1 := q_.c1; have hcz23_2 := q_.c2; have hcz23_3 := q_.c3; have hcz23_4 := q_.c4; have hcz23_5 := q_.c5; have hcz23_6 := q_.c6; have hcz23_7 := q_.c7; have hcz23_8 := q_.c8; have hcz23_9 := q_.c9; have hcz23_10 := q_.c10; have hcz23_11 := q_.c11; have hfz23_0 := q_.f0; have hfz23_1 := q_.f1; have hfz23_2 := q_.f2; have hfz23_3 := q_.f3; have hfz23_4 := q_.f4; have hfz23_5 := q_.f5; have hfz23_6 := q_.f6; have hfz23_7 := q_.f7; have hfz23_8 := q_.f8; have hfz23_9 := q_.f9; have hfz23_10 := q_.f10; have hfz23_11 := q_.f11; clear q_) | ((with_reducible refine gate_callee (f := 6) rfl ?_); refine goesL_ (some 18) rfl rfl Try.func6 (by kernel_rfl) rfl #[.agg #[.int .i64 a0_0, .int .i64 a0_1, .int .i64 a0_2, .int .i64 a0_3, .int .i64 a0_4, .int .i64 a0_5, .int .i64 a0_6, .int .i64 a0_7, .int .i64 a0_8, .int .i64 a0_9, .int .i64 a0_10, .int .i64 a0_11]] rfl (by (try simp only [List.map_toArray, List.map_cons, List.map_nil]); first | done | rfl | (simp only [List.length_drop, List.length_take]; rfl)) ?_; (with_reducible refine (inode_Put.calls k a0_0 a0_1 a0_2 a0_3 a0_4 a0_5 a0_6 a0_7 a0_8 a0_9 a0_10 a0_11 t287 t290 _ A3.out).mono ?_); rintro e w24 ⟨v288, rfl, ho0, hb⟩; refine ⟨_, rfl, ?_⟩; have n0_ := Aside0.mk (Kd.R_lower ho0 (below_size (by repeat (first | (with_reducible first | exact HB.out | apply below_alloc | apply pw_below_drewN | apply below_drew1 | refine below_set ?_ GE286.out) | exact HB.out)))); have n1_ := Aside0.mk (blk_below (g := gb286) (o := .cells #[.int .i64 a0_0, .int .i64 a0_1, .int .i64 a0_2, .int .i64 a0_3, .int .i64 a0_4, .int .i64 a0_5, .int .i64 a0_6, .int .i64 a0_7, .int .i64 a0_8, .int .i64 a0_9, .int .i64 a0_10, .int .i64 a0_11] 24 (0, 0)) (by (with_reducible repeat (first | refine blk_drewN ?_ _ | refine blk_drew ?_ | refine blk_alloc ?_ _)); exact BK286.out) hb); have n2_ := Aside0.mk (below_step (by repeat (first | (with_reducible first | exact HB.out | apply below_alloc | apply pw_below_drewN | apply below_drew1 | refine below_set ?_ GE286.out) | exact HB.out)) hb); clear BK286; clear HB; have HO289 := n0_; have BK286 := n1_; have HB := n2_; clear n0_ n1_ n2_; (try clear hb); (try clear hb2); (try clear hk); (try clear hi); (try clear ho0); have q_ := cells12 BK286.out; have hcz25_0 := q_.c0; have hcz25_1 := q_.c1; have hcz25_2 := q_.c2; have hcz25_3 := q_.c3; have hcz25_4 := q_.c4; have hcz25_5 := q_.c5; have hcz25_6 := q_.c6; have hcz25_7 := q_.c7; have hcz25_8 := q_.c8; have hcz25_9 := q_.c9; have hcz25_10 := q_.c10; have hcz25_11 := q_.c11; have hfz25_0 := q_.f0; have hfz25_1 := q_.f1; have hfz25_2 := q_.f2; have hfz25_3 := q_.f3; have hfz25_4 := q_.f4; have hfz25_5 := q_.f5; have hfz25_6 := q_.f6; have hfz25_7 := q_.f7; have hfz25_8 := q_.f8; have hfz25_9 := q_.f9; have hfz25_10 := q_.f10; have hfz25_11 := q_.f11; clear q_) | ((with_reducible refine gate_callee (f := 7) rfl ?_); refine goesL_ (some 23) rfl rfl Try.func7 (by kernel_rfl) rfl #[.agg #[.int .i64 a0_0, .int .i64 a0_1, .int .i64 a0_2, .int .i64 a0_3, .int .i64 a0_4, .int .i64 a0_5, .int .i64 a0_6, .int .i64 a0_7, .int .i64 a0_8, .int .i64 a0_9, .int .i64 a0_10, .int .i64 a0_11]] rfl (by (try simp only [List.map_toArray, List.map_cons, List.map_nil]); first | done | rfl | (simp only [List.length_drop, List.length_take]; rfl)) ?_; (with_reducible refine (leveeref07_Put.calls k a0_0 a0_1 a0_2 a0_3 a0_4 a0_5 a0_6 a0_7 a0_8 a0_9 a0_10 a0_11 t291 t294 _ A4.out).mono ?_); rintro e w26 ⟨v292, rfl, ho0, hb⟩; refine ⟨_, rfl, ?_⟩; have n0_ := Aside0.mk (Kd.R_elder' (by (with_reducible repeat (first | apply Kd.R_alloc | apply Kd.R_drewN | apply Kd.R_drew)); exact HO289.out) (Kd.R_base ho0) hb); have n1_ := Aside0.mk (Kd.R_lower (Kd.R_new' ho0 (Kd.R_lt (by (with_reducible repeat (first | apply Kd.R_alloc | apply Kd.R_drewN | apply Kd.R_drew)); exact HO289.out))) (below_size (by repeat (first | (with_reducible first | exact HB.out | apply below_alloc | apply pw_below_drewN | apply below_drew1 | refine below_set ?_ GE286.out) | exact HB.out)))); have n2_ := Aside0.mk (blk_below (g := gb286) (o := .cells #[.int .i64 a0_0, .int .i64 a0_1, .int .i64 a0_2, .int .i64 a0_3, .int .i64 a0_4, .int .i64 a0_5, .int .i64 a0_6, .int .i64 a0_7, .int .i64 a0_8, .int .i64 a0_9, .int .i64 a0_10, .int .i64 a0_11] 24 (0, 0)) (by (with_reducible repeat (first | refine blk_drewN ?_ _ | refine blk_drew ?_ | refine blk_alloc ?_ _)); exact BK286.out) hb); have n3_ := Aside0.mk (below_step (by repeat (first | (with_reducible first | exact HB.out | apply below_alloc | apply pw_below_drewN | apply below_drew1 | refine below_set ?_ GE286.out) | exact HB.out)) hb); clear HO289; clear BK286; clear HB; have HO289 := n0_; have HO293 := n1_; have BK286 := n2_; have HB := n3_; clear n0_ n1_ n2_ n3_; (try clear hb); (try clear hb2); (try clear hk); (try clear hi); (try clear ho0)) | ((with_reducible refine gate_callee (f := 8) rfl ?_); refine goesL_ (some 27) rfl rfl Try.func8 (by kernel_rfl) rfl #[.slice A1 l1.length c1] rfl (by (try simp only [List.map_toArray, List.map_cons, List.map_nil]); first | done | rfl | (simp only [List.length_drop, List.length_take]; rfl)) ?_; (with_reducible refine (leveeref01_Lent.calls _ _ l1 t295 _ ?side1 ?side2 A5.out).mono ?_); (case side1 => repeat (first | exact (Kd.C_below HR1.out HB.out) | (with_reducible refine Kd.C_alloc ?_ _) | (with_reducible refine Kd.C_drewN ?_ _) | (with_reducible refine Kd.C_drew ?_))); (case side2 => exact HC1.out); rintro e w27 ⟨v296, rfl, ho0, hb⟩; refine ⟨_, rfl, ?_⟩; have n0_ := Aside0.mk (Kd.R_elder' (by (with_reducible repeat (first | apply Kd.R_alloc | apply Kd.R_drewN | apply Kd.R_drew)); exact HO289.out) (TQ.Q_base ho0) hb); have n1_ := Aside0.mk (Kd.R_elder' (by (with_reducible repeat (first | apply Kd.R_alloc | apply Kd.R_drewN | apply Kd.R_drew)); exact HO293.out) (TQ.Q_base ho0) hb); have n2_ := Aside0.mk (TQ.Q_lower (TQ.Q_new' (TQ.Q_new' ho0 (Kd.R_lt (by (with_reducible repeat (first | apply Kd.R_alloc | apply Kd.R_drewN | apply Kd.R_drew)); exact HO289.out))) (Kd.R_lt (by (with_reducible repeat (first | apply Kd.R_alloc | apply Kd.R_drewN | apply Kd.R_drew)); exact HO293.out))) (below_size (by repeat (first | (with_reducible first | exact HB.out | apply below_alloc | apply pw_below_drewN | apply below_drew1 | refine below_set ?_ GE286.out) | exact HB.out)))); have n3_ := Aside0.mk (blk_below (g := gb286) (o := .cells #[.int .i64 a0_0, .int .i64 a0_1, .int .i64 a0_2, .int .i64 a0_3, .int .i64 a0_4, .int .i64 a0_5, .int .i64 a0_6, .int .i64 a0_7, .int .i64 a0_8, .int .i64 a0_9, .int .i64 a0_10, .int .i64 a0_11] 24 (0, 0)) (by (with_reducible repeat (first | refine blk_drewN ?_ _ | refine blk_drew ?_ | refine blk_alloc ?_ _)); exact BK286.out) hb); have n4_ := Aside0.mk (below_step (by repeat (first | (with_reducible first | exact HB.out | apply below_alloc | apply pw_below_drewN | apply below_drew1 | refine below_set ?_ GE286.out) | exact HB.out)) hb); clear HO289; clear HO293; clear BK286; clear HB; have HO289 := n0_; have HO293 := n1_; have HO297 := n2_; have BK286 := n3_; have HB := n4_; clear n0_ n1_ n2_ n3_ n4_; (try clear hb); (try clear hb2); (try clear hk); (try clear hi); (try clear ho0); obtain ⟨Ao28, co28, eo28, _⟩ := TQ.Q_slice HO297.out; subst eo28) | ((with_reducible refine gate_callee (f := 9) rfl ?_); refine goesL_ (some 30) rfl rfl Try.func9 (by kernel_rfl) rfl #[.slice Ao28 t295.length co28] rfl (by (try simp only [List.map_toArray, List.map_cons, List.map_nil]); first | done | rfl | (simp only [List.length_drop, List.length_take]; rfl)) ?_; (with_reducible refine (inode_Get.calls k _ _ t295 t298 t299 t300 t301 t302 t303 t304 t305 t306 t307 t308 t309 t310 _ ?side1 ?side2 A6.out).mono ?_); (case side1 => repeat (first | exact (TQ.Q_reads' HO297.out).2.2 | (with_reducible refine Kd.C_alloc ?_ _) | (with_reducible refine Kd.C_drewN ?_ _) | (with_reducible refine Kd.C_drew ?_))); (case side2 => exact (TQ.Q_reads' HO297.out).2.1); rintro e w29 ⟨rfl, hb⟩; refine ⟨_, rfl, ?_⟩; have n0_ := Aside0.mk (Kd.R_below (by (with_reducible repeat (first | apply Kd.R_alloc | apply Kd.R_drewN | apply Kd.R_drew)); exact HO289.out) hb); have n1_ := Aside0.mk (Kd.R_below (by (with_reducible repeat (first | apply Kd.R_alloc | apply Kd.R_drewN | apply Kd.R_drew)); exact HO293.out) hb); have n2_ := Aside0.mk (TQ.Q_below (by (with_reducible repeat (first | apply TQ.Q_alloc | apply TQ.Q_drewN | apply TQ.Q_drew)); exact HO297.out) hb); have n3_ := Aside0.mk (blk_below (g := gb286) (o := .cells #[.int .i64 a0_0, .int .i64 a0_1, .int .i64 a0_2, .int .i64 a0_3, .int .i64 a0_4, .int .i64 a0_5, .int .i64 a0_6, .int .i64 a0_7, .int .i64 a0_8, .int .i64 a0_9, .int .i64 a0_10, .int .i64 a0_11] 24 (0, 0)) (by (with_reducible repeat (first | refine blk_drewN ?_ _ | refine blk_drew ?_ | refine blk_alloc ?_ _)); exact BK286.out) hb); have n4_ := Aside0.mk (below_step (by repeat (first | (with_reducible first | exact HB.out | apply below_alloc | apply pw_below_drewN | apply below_drew1 | refine below_set ?_ GE286.out) | exact HB.out)) hb); clear HO289; clear HO293; clear HO297; clear BK286; clear HB; have HO289 := n0_; have HO293 := n1_; have HO297 := n2_; have BK286 := n3_; have HB := n4_; clear n0_ n1_ n2_ n3_ n4_; (try clear hb); (try clear hb2); (try clear hk); (try clear hi)) | ((with_reducible refine gate_dst (N := 10) rfl ?_); refine box_event ?hg (N := 10) ?hd (cs := #[.int .i64 0, .int .i64 0, .int .i64 0, .int .i64 0, .int .i64 0, .int .i64 0, .int .i64 0, .int .i64 0, .int .i64 0, .int .i64 0, .int .i64 0, .int .i64 0]) (t := 24) ?hr ?_; (case hd => rfl); (case hg => rfl); (case hr => first | (go_simp; done) | (go_simp; rfl)); intro gb311 hg w30 hbox hb; have n0_ := Aside0.mk (Kd.R_below (by (with_reducible repeat (first | apply Kd.R_alloc | apply Kd.R_drewN | apply Kd.R_drew)); exact HO289.out) hb); have n1_ := Aside0.mk (Kd.R_below (by (with_reducible repeat (first | apply Kd.R_alloc | apply Kd.R_drewN | apply Kd.R_drew)); exact HO293.out) hb); have n2_ := Aside0.mk (TQ.Q_below (by (with_reducible repeat (first | apply TQ.Q_alloc | apply TQ.Q_drewN | apply TQ.Q_drew)); exact HO297.out) hb); have n3_ := Aside0.mk (blk_below (g := gb286) (o := .cells #[.int .i64 a0_0, .int .i64 a0_1, .int .i64 a0_2, .int .i64 a0_3, .int .i64 a0_4, .int .i64 a0_5, .int .i64 a0_6, .int .i64 a0_7, .int .i64 a0_8, .int .i64 a0_9, .int .i64 a0_10, .int .i64 a0_11] 24 (0, 0)) (by (with_reducible repeat (first | refine blk_drewN ?_ _ | refine blk_drew ?_ | refine blk_alloc ?_ _)); exact BK286.out) hb); have n4_ := Aside0.mk (below_step (by repeat (first | (with_reducible first | exact HB.out | apply below_alloc | apply pw_below_drewN | apply below_drew1 | refine below_set ?_ GE286.out) | exact HB.out)) hb); have n5_ := Aside0.mk (hbox); have n6_ := Aside0.mk ((by rw [hg]; exact (below_size (by repeat (first | (with_reducible first | exact HB.out | apply below_alloc | apply pw_below_drewN | apply below_drew1 | refine below_set ?_ GE286.out) | exact HB.out))) : w.heap.size ≤ gb311)); have n7_ := Aside0.mk ((by rw [hg]; exact (below_size (by repeat (first | (with_reducible first | exact HB.out | apply below_alloc | apply pw_below_drewN | apply below_drew1 | refine below_set ?_ GE286.out) | exact HB.out))) : w.heap.size ≤ gb311)); have n8_ := Aside0.mk ((by rw [hg]; exact Nat.ne_of_lt (blk_lt (g := gb286) (o := .cells #[.int .i64 a0_0, .int .i64 a0_1, .int .i64 a0_2, .int .i64 a0_3, .int .i64 a0_4, .int .i64 a0_5, .int .i64 a0_6, .int .i64 a0_7, .int .i64 a0_8, .int .i64 a0_9, .int .i64 a0_10, .int .i64 a0_11] 24 (0, 0)) (by (with_reducible repeat (first | refine blk_drewN ?_ _ | refine blk_drew ?_ | refine blk_alloc ?_ _)); exact BK286.out)) : gb286 ≠ gb311)); have n9_ := Aside0.mk ((by rw [hg]; exact Nat.ne_of_gt (blk_lt (g := gb286) (o := .cells #[.int .i64 a0_0, .int .i64 a0_1, .int .i64 a0_2, .int .i64 a0_3, .int .i64 a0_4, .int .i64 a0_5, .int .i64 a0_6, .int .i64 a0_7, .int .i64 a0_8, .int .i64 a0_9, .int .i64 a0_10, .int .i64 a0_11] 24 (0, 0)) (by (with_reducible repeat (first | refine blk_drewN ?_ _ | refine blk_drew ?_ | refine blk_alloc ?_ _)); exact BK286.out)) : gb311 ≠ gb286)); clear HO289; clear HO293; clear HO297; clear BK286; clear HB; have HO289 := n0_; have HO293 := n1_; have HO297 := n2_; have BK286 := n3_; have HB := n4_; have BK311 := n5_; have GW311 := n6_; have GE311 := n7_; have NB286_311 := n8_; have NB311_286 := n9_; clear n0_ n1_ n2_ n3_ n4_ n5_ n6_ n7_ n8_ n9_; clear hb hbox hg; have hnb31 := NB311_286.out; have hnc31 := NB286_311.out; have q_ := cells12 BK311.out; have hcz32_0 := q_.c0; have hcz32_1 := q_.c1; have hcz32_2 := q_.c2; have hcz32_3 := q_.c3; have hcz32_4 := q_.c4; have hcz32_5 := q_.c5; have hcz32_6 := q_.c6; have hcz32_7 := q_.c7; have hcz32_8 := q_.c8; have hcz32_9 := q_.c9; have hcz32_10 := q_.c10; have hcz32_11 := q_.c11; have hfz32_0 := q_.f0; have hfz32_1 := q_.f1; have hfz32_2 := q_.f2; have hfz32_3 := q_.f3; have hfz32_4 := q_.f4; have hfz32_5 := q_.f5; have hfz32_6 := q_.f6; have hfz32_7 := q_.f7; have hfz32_8 := q_.f8; have hfz32_9 := q_.f9; have hfz32_10 := q_.f10; have hfz32_11 := q_.f11; clear q_) | ((with_reducible refine gate_callee (f := 10) rfl ?_); refine goesL_ (some 35) rfl rfl Try.func10 (by kernel_rfl) rfl #[.slice A1 l1.length c1] rfl (by (try simp only [List.map_toArray, List.map_cons, List.map_nil]); first | done | rfl | (simp only [List.length_drop, List.length_take]; rfl)) ?_; (with_reducible refine (leveeref07_Get.calls k _ _ l1 t312 t313 t314 t315 t316 t317 t318 t319 t320 t321 t322 t323 t324 _ ?side1 ?side2 A7.out).mono ?_); (case side1 => exact Kd.C_below HR1.out (by repeat (first | (with_reducible first | exact HB.out | apply below_alloc | apply pw_below_drewN | apply below_drew1 | refine below_set ?_ GE286.out | refine below_set ?_ GE311.out) | exact HB.out))); (case side2 => exact HC1.out); rintro e w33 ⟨rfl, hb⟩; refine ⟨_, rfl, ?_⟩; have n0_ := Aside0.mk (Kd.R_below (by (with_reducible repeat (first | apply Kd.R_alloc | apply Kd.R_drewN | apply Kd.R_drew)); exact (Kd.R_mono (Kd.R_far12 (Kd.R_types HO289.out BK311.out (by decide)) (fun _ hk => hk.2)) (fun _ h_ => h_.1))) hb); have n1_ := Aside0.mk (Kd.R_below (by (with_reducible repeat (first | apply Kd.R_alloc | apply Kd.R_drewN | apply Kd.R_drew)); exact (Kd.R_mono (Kd.R_far12 (Kd.R_types HO293.out BK311.out (by decide)) (fun _ hk => hk.2)) (fun _ h_ => h_.1))) hb); have n2_ := Aside0.mk (TQ.Q_below (by (with_reducible repeat (first | apply TQ.Q_alloc | apply TQ.Q_drewN | apply TQ.Q_drew)); exact (TQ.Q_mono (TQ.Q_far12 (TQ.Q_types HO297.out BK311.out (by decide)) (fun _ hk => hk.2)) (fun _ h_ => h_.1))) hb); have n3_ := Aside0.mk (blk_below (g := gb286) (o := .cells #[.int .i64 a0_0, .int .i64 a0_1, .int .i64 a0_2, .int .i64 a0_3, .int .i64 a0_4, .int .i64 a0_5, .int .i64 a0_6, .int .i64 a0_7, .int .i64 a0_8, .int .i64 a0_9, .int .i64 a0_10, .int .i64 a0_11] 24 (0, 0)) (by (with_reducible repeat (first | refine blk_drewN ?_ _ | refine blk_drew ?_ | refine blk_alloc ?_ _)); refine blk_far12 ?_ NB286_311.out; (with_reducible repeat (first | refine blk_drewN ?_ _ | refine blk_drew ?_ | refine blk_alloc ?_ _)); exact BK286.out) hb); have n4_ := Aside0.mk (blk_below (g := gb311) (o := .cells #[.int .i64 t298, .int .i64 t299, .int .i64 t300, .int .i64 t301, .int .i64 t302, .int .i64 t303, .int .i64 t304, .int .i64 t305, .int .i64 t306, .int .i64 t307, .int .i64 t308, .int .i64 t309] 24 (0, 0)) (by (with_reducible repeat (first | refine blk_drewN ?_ _ | refine blk_drew ?_ | refine blk_alloc ?_ _)); refine blk_put12 (.int .i64 0) (.int .i64 0) (.int .i64 0) (.int .i64 0) (.int .i64 0) (.int .i64 0) (.int .i64 0) (.int .i64 0) (.int .i64 0) (.int .i64 0) (.int .i64 0) (.int .i64 0) ?_; (with_reducible repeat (first | refine blk_drewN ?_ _ | refine blk_drew ?_ | refine blk_alloc ?_ _)); exact BK311.out) hb); have n5_ := Aside0.mk (below_step (by repeat (first | (with_reducible first | exact HB.out | apply below_alloc | apply pw_below_drewN | apply below_drew1 | refine below_set ?_ GE286.out | refine below_set ?_ GE311.out) | exact HB.out)) hb); clear HO289; clear HO293; clear HO297; clear BK286; clear BK311; clear HB; have HO289 := n0_; have HO293 := n1_; have HO297 := n2_; have BK286 := n3_; have BK311 := n4_; have HB := n5_; clear n0_ n1_ n2_ n3_ n4_ n5_; (try clear hb); (try clear hb2); (try clear hk); (try clear hi)) | ((with_reducible refine gate_dst (N := 12) rfl ?_); refine box_event ?hg (N := 12) ?hd (cs := #[.int .i64 0, .int .i64 0, .int .i64 0, .int .i64 0, .int .i64 0, .int .i64 0, .int .i64 0, .int .i64 0, .int .i64 0, .int .i64 0, .int .i64 0, .int .i64 0]) (t := 24) ?hr ?_; (case hd => rfl); (case hg => rfl); (case hr => first | (go_simp; done) | (go_simp; rfl)); intro gb325 hg w34 hbox hb; have n0_ := Aside0.mk (Kd.R_below (by (with_reducible repeat (first | apply Kd.R_alloc | apply Kd.R_drewN | apply Kd.R_drew)); exact HO289.out) hb); have n1_ := Aside0.mk (Kd.R_below (by (with_reducible repeat (first | apply Kd.R_alloc | apply Kd.R_drewN | apply Kd.R_drew)); exact HO293.out) hb); have n2_ := Aside0.mk (TQ.Q_below (by (with_reducible repeat (first | apply TQ.Q_alloc | apply TQ.Q_drewN | apply TQ.Q_drew)); exact HO297.out) hb); have n3_ := Aside0.mk (blk_below (g := gb286) (o := .cells #[.int .i64 a0_0, .int .i64 a0_1, .int .i64 a0_2, .int .i64 a0_3, .int .i64 a0_4, .int .i64 a0_5, .int .i64 a0_6, .int .i64 a0_7, .int .i64 a0_8, .int .i64 a0_9, .int .i64 a0_10, .int .i64 a0_11] 24 (0, 0)) (by (with_reducible repeat (first | refine blk_drewN ?_ _ | refine blk_drew ?_ | refine blk_alloc ?_ _)); exact BK286.out) hb); have n4_ := Aside0.mk (blk_below (g := gb311) (o := .cells #[.int .i64 t298, .int .i64 t299, .int .i64 t300, .int .i64 t301, .int .i64 t302, .int .i64 t303, .int .i64 t304, .int .i64 t305, .int .i64 t306, .int .i64 t307, .int .i64 t308, .int .i64 t309] 24 (0, 0)) (by (with_reducible repeat (first | refine blk_drewN ?_ _ | refine blk_drew ?_ | refine blk_alloc ?_ _)); exact BK311.out) hb); have n5_ := Aside0.mk (below_step (by repeat (first | (with_reducible first | exact HB.out | apply below_alloc | apply pw_below_drewN | apply below_drew1 | refine below_set ?_ GE286.out | refine below_set ?_ GE311.out) | exact HB.out)) hb); have n6_ := Aside0.mk (hbox); have n7_ := Aside0.mk ((by rw [hg]; exact (below_size (by repeat (first | (with_reducible first | exact HB.out | apply below_alloc | apply pw_below_drewN | apply below_drew1 | refine below_set ?_ GE286.out | refine below_set ?_ GE311.out) | exact HB.out))) : w.heap.size ≤ gb325)); have n8_ := Aside0.mk ((by rw [hg]; exact (below_size (by repeat (first | (with_reducible first | exact HB.out | apply below_alloc | apply pw_below_drewN | apply below_drew1 | refine below_set ?_ GE286.out | refine below_set ?_ GE311.out) | exact HB.out))) : w.heap.size ≤ gb325)); have n9_ := Aside0.mk ((by rw [hg]; exact Nat.ne_of_lt (blk_lt (g := gb286) (o := .cells #[.int .i64 a0_0, .int .i64 a0_1, .int .i64 a0_2, .int .i64 a0_3, .int .i64 a0_4, .int .i64 a0_5, .int .i64 a0_6, .int .i64 a0_7, .int .i64 a0_8, .int .i64 a0_9, .int .i64 a0_10, .int .i64 a0_11] 24 (0, 0)) (by (with_reducible repeat (first | refine blk_drewN ?_ _ | refine blk_drew ?_ | refine blk_alloc ?_ _)); exact BK286.out)) : gb286 ≠ gb325)); have n10_ := Aside0.mk ((by rw [hg]; exact Nat.ne_of_gt (blk_lt (g := gb286) (o := .cells #[.int .i64 a0_0, .int .i64 a0_1, .int .i64 a0_2, .int .i64 a0_3, .int .i64 a0_4, .int .i64 a0_5, .int .i64 a0_6, .int .i64 a0_7, .int .i64 a0_8, .int .i64 a0_9, .int .i64 a0_10, .int .i64 a0_11] 24 (0, 0)) (by (with_reducible repeat (first | refine blk_drewN ?_ _ | refine blk_drew ?_ | refine blk_alloc ?_ _)); exact BK286.out)) : gb325 ≠ gb286)); have n11_ := Aside0.mk ((by rw [hg]; exact Nat.ne_of_lt (blk_lt (g := gb311) (o := .cells #[.int .i64 t298, .int .i64 t299, .int .i64 t300, .int .i64 t301, .int .i64 t302, .int .i64 t303, .int .i64 t304, .int .i64 t305, .int .i64 t306, .int .i64 t307, .int .i64 t308, .int .i64 t309] 24 (0, 0)) (by (with_reducible repeat (first | refine blk_drewN ?_ _ | refine blk_drew ?_ | refine blk_alloc ?_ _)); exact BK311.out)) : gb311 ≠ gb325)); have n12_ := Aside0.mk ((by rw [hg]; exact Nat.ne_of_gt (blk_lt (g := gb311) (o := .cells #[.int .i64 t298, .int .i64 t299, .int .i64 t300, .int .i64 t301, .int .i64 t302, .int .i64 t303, .int .i64 t304, .int .i64 t305, .int .i64 t306, .int .i64 t307, .int .i64 t308, .int .i64 t309] 24 (0, 0)) (by (with_reducible repeat (first | refine blk_drewN ?_ _ | refine blk_drew ?_ | refine blk_alloc ?_ _)); exact BK311.out)) : gb325 ≠ gb311)); clear HO289; clear HO293; clear HO297; clear BK286; clear BK311; clear HB; have HO289 := n0_; have HO293 := n1_; have HO297 := n2_; have BK286 := n3_; have BK311 := n4_; have HB := n5_; have BK325 := n6_; have GW325 := n7_; have GE325 := n8_; have NB286_325 := n9_; have NB325_286 := n10_; have NB311_325 := n11_; have NB325_311 := n12_; clear n0_ n1_ n2_ n3_ n4_ n5_ n6_ n7_ n8_ n9_ n10_ n11_ n12_; clear hb hbox hg; have hnb35 := NB325_286.out; have hnc35 := NB286_325.out; have hnb36 := NB325_311.out; have hnc36 := NB311_325.out; have q_ := cells12 BK325.out; have hcz37_0 := q_.c0; have hcz37_1 := q_.c1; have hcz37_2 := q_.c2; have hcz37_3 := q_.c3; have hcz37_4 := q_.c4; have hcz37_5 := q_.c5; have hcz37_6 := q_.c6; have hcz37_7 := q_.c7; have hcz37_8 := q_.c8; have hcz37_9 := q_.c9; have hcz37_10 := q_.c10; have hcz37_11 := q_.c11; have hfz37_0 := q_.f0; have hfz37_1 := q_.f1; have hfz37_2 := q_.f2; have hfz37_3 := q_.f3; have hfz37_4 := q_.f4; have hfz37_5 := q_.f5; have hfz37_6 := q_.f6; have hfz37_7 := q_.f7; have hfz37_8 := q_.f8; have hfz37_9 := q_.f9; have hfz37_10 := q_.f10; have hfz37_11 := q_.f11; clear q_))
          have n0_ : Aside0 (Kd.R (Kd.int .u8) 5 ((((((((((((w34.setCell ⟨gb325, 0, none⟩ (.int .i64 t312)).setCell ⟨gb325, 1, none⟩ (.int .i64 t313)).setCell ⟨gb325, 2, none⟩ (.int .i64 t314)).setCell ⟨gb325, 3, none⟩ (.int .i64 t315)).setCell ⟨gb325, 4, none⟩ (.int .i64 t316)).setCell ⟨gb325, 5, none⟩ (.int .i64 t317)).setCell ⟨gb325, 6, none⟩ (.int .i64 t318)).setCell ⟨gb325, 7, none⟩ (.int .i64 t319)).setCell ⟨gb325, 8, none⟩ (.int .i64 t320)).setCell ⟨gb325, 9, none⟩ (.int .i64 t321)).setCell ⟨gb325, 10, none⟩ (.int .i64 t322)).setCell ⟨gb325, 11, none⟩ (.int .i64 t323)) w.heap.size (fun k_ => some k_ ≠ (v292 : Value).ownBlock ∧ some k_ ≠ (.slice Ao28 t295.length co28 : Value).ownBlock) v288 t287) := ⟨by (with_reducible repeat (first | apply Kd.R_alloc | apply Kd.R_drewN | apply Kd.R_drew)); exact Kd.R_mono (Kd.R_far12 (Kd.R_types HO289.out BK325.out (by decide)) (fun _ hk => hk.2)) (fun _ hk => ⟨hk.1.1.2, hk.1.2⟩)⟩
          have n1_ : Aside0 (Kd.R (Kd.int .u8) 5 ((((((((((((w34.setCell ⟨gb325, 0, none⟩ (.int .i64 t312)).setCell ⟨gb325, 1, none⟩ (.int .i64 t313)).setCell ⟨gb325, 2, none⟩ (.int .i64 t314)).setCell ⟨gb325, 3, none⟩ (.int .i64 t315)).setCell ⟨gb325, 4, none⟩ (.int .i64 t316)).setCell ⟨gb325, 5, none⟩ (.int .i64 t317)).setCell ⟨gb325, 6, none⟩ (.int .i64 t318)).setCell ⟨gb325, 7, none⟩ (.int .i64 t319)).setCell ⟨gb325, 8, none⟩ (.int .i64 t320)).setCell ⟨gb325, 9, none⟩ (.int .i64 t321)).setCell ⟨gb325, 10, none⟩ (.int .i64 t322)).setCell ⟨gb325, 11, none⟩ (.int .i64 t323)) w.heap.size (fun k_ => some k_ ≠ (v288 : Value).ownBlock ∧ some k_ ≠ (.slice Ao28 t295.length co28 : Value).ownBlock) v292 t291) := ⟨by (with_reducible repeat (first | apply Kd.R_alloc | apply Kd.R_drewN | apply Kd.R_drew)); exact Kd.R_mono (Kd.R_far12 (Kd.R_types HO293.out BK325.out (by decide)) (fun _ hk => hk.2)) (fun _ hk => ⟨hk.1.1.2, hk.1.2⟩)⟩
          have n2_ : Aside0 (TQ.Q (Kd.int .u8) 5 ((((((((((((w34.setCell ⟨gb325, 0, none⟩ (.int .i64 t312)).setCell ⟨gb325, 1, none⟩ (.int .i64 t313)).setCell ⟨gb325, 2, none⟩ (.int .i64 t314)).setCell ⟨gb325, 3, none⟩ (.int .i64 t315)).setCell ⟨gb325, 4, none⟩ (.int .i64 t316)).setCell ⟨gb325, 5, none⟩ (.int .i64 t317)).setCell ⟨gb325, 6, none⟩ (.int .i64 t318)).setCell ⟨gb325, 7, none⟩ (.int .i64 t319)).setCell ⟨gb325, 8, none⟩ (.int .i64 t320)).setCell ⟨gb325, 9, none⟩ (.int .i64 t321)).setCell ⟨gb325, 10, none⟩ (.int .i64 t322)).setCell ⟨gb325, 11, none⟩ (.int .i64 t323)) w.heap.size (fun k_ => some k_ ≠ (v288 : Value).ownBlock ∧ some k_ ≠ (v292 : Value).ownBlock) (.slice Ao28 t295.length co28) t295) := ⟨by (with_reducible repeat (first | apply TQ.Q_alloc | apply TQ.Q_drewN | apply TQ.Q_drew)); exact TQ.Q_mono (TQ.Q_far12 (TQ.Q_types HO297.out BK325.out (by decide)) (fun _ hk => hk.2)) (fun _ hk => ⟨hk.1.1.2, hk.1.2⟩)⟩
          have n3_ : Aside0 (((((((((((((w34.setCell ⟨gb325, 0, none⟩ (.int .i64 t312)).setCell ⟨gb325, 1, none⟩ (.int .i64 t313)).setCell ⟨gb325, 2, none⟩ (.int .i64 t314)).setCell ⟨gb325, 3, none⟩ (.int .i64 t315)).setCell ⟨gb325, 4, none⟩ (.int .i64 t316)).setCell ⟨gb325, 5, none⟩ (.int .i64 t317)).setCell ⟨gb325, 6, none⟩ (.int .i64 t318)).setCell ⟨gb325, 7, none⟩ (.int .i64 t319)).setCell ⟨gb325, 8, none⟩ (.int .i64 t320)).setCell ⟨gb325, 9, none⟩ (.int .i64 t321)).setCell ⟨gb325, 10, none⟩ (.int .i64 t322)).setCell ⟨gb325, 11, none⟩ (.int .i64 t323)).heap[gb286]? = some (.cells #[.int .i64 a0_0, .int .i64 a0_1, .int .i64 a0_2, .int .i64 a0_3, .int .i64 a0_4, .int .i64 a0_5, .int .i64 a0_6, .int .i64 a0_7, .int .i64 a0_8, .int .i64 a0_9, .int .i64 a0_10, .int .i64 a0_11] 24 (0, 0))) := ⟨by (with_reducible repeat (first | refine blk_drewN ?_ _ | refine blk_drew ?_ | refine blk_alloc ?_ _)); refine blk_far12 ?_ NB286_325.out; (with_reducible repeat (first | refine blk_drewN ?_ _ | refine blk_drew ?_ | refine blk_alloc ?_ _)); exact BK286.out⟩
          have n4_ : Aside0 (((((((((((((w34.setCell ⟨gb325, 0, none⟩ (.int .i64 t312)).setCell ⟨gb325, 1, none⟩ (.int .i64 t313)).setCell ⟨gb325, 2, none⟩ (.int .i64 t314)).setCell ⟨gb325, 3, none⟩ (.int .i64 t315)).setCell ⟨gb325, 4, none⟩ (.int .i64 t316)).setCell ⟨gb325, 5, none⟩ (.int .i64 t317)).setCell ⟨gb325, 6, none⟩ (.int .i64 t318)).setCell ⟨gb325, 7, none⟩ (.int .i64 t319)).setCell ⟨gb325, 8, none⟩ (.int .i64 t320)).setCell ⟨gb325, 9, none⟩ (.int .i64 t321)).setCell ⟨gb325, 10, none⟩ (.int .i64 t322)).setCell ⟨gb325, 11, none⟩ (.int .i64 t323)).heap[gb311]? = some (.cells #[.int .i64 t298, .int .i64 t299, .int .i64 t300, .int .i64 t301, .int .i64 t302, .int .i64 t303, .int .i64 t304, .int .i64 t305, .int .i64 t306, .int .i64 t307, .int .i64 t308, .int .i64 t309] 24 (0, 0))) := ⟨by (with_reducible repeat (first | refine blk_drewN ?_ _ | refine blk_drew ?_ | refine blk_alloc ?_ _)); refine blk_far12 ?_ NB311_325.out; (with_reducible repeat (first | refine blk_drewN ?_ _ | refine blk_drew ?_ | refine blk_alloc ?_ _)); exact BK311.out⟩
          have n5_ : Aside0 (((((((((((((w34.setCell ⟨gb325, 0, none⟩ (.int .i64 t312)).setCell ⟨gb325, 1, none⟩ (.int .i64 t313)).setCell ⟨gb325, 2, none⟩ (.int .i64 t314)).setCell ⟨gb325, 3, none⟩ (.int .i64 t315)).setCell ⟨gb325, 4, none⟩ (.int .i64 t316)).setCell ⟨gb325, 5, none⟩ (.int .i64 t317)).setCell ⟨gb325, 6, none⟩ (.int .i64 t318)).setCell ⟨gb325, 7, none⟩ (.int .i64 t319)).setCell ⟨gb325, 8, none⟩ (.int .i64 t320)).setCell ⟨gb325, 9, none⟩ (.int .i64 t321)).setCell ⟨gb325, 10, none⟩ (.int .i64 t322)).setCell ⟨gb325, 11, none⟩ (.int .i64 t323)).heap[gb325]? = some (.cells #[.int .i64 t312, .int .i64 t313, .int .i64 t314, .int .i64 t315, .int .i64 t316, .int .i64 t317, .int .i64 t318, .int .i64 t319, .int .i64 t320, .int .i64 t321, .int .i64 t322, .int .i64 t323] 24 (0, 0))) := ⟨by (with_reducible repeat (first | refine blk_drewN ?_ _ | refine blk_drew ?_ | refine blk_alloc ?_ _)); refine blk_put12 (.int .i64 0) (.int .i64 0) (.int .i64 0) (.int .i64 0) (.int .i64 0) (.int .i64 0) (.int .i64 0) (.int .i64 0) (.int .i64 0) (.int .i64 0) (.int .i64 0) (.int .i64 0) ?_; (with_reducible repeat (first | refine blk_drewN ?_ _ | refine blk_drew ?_ | refine blk_alloc ?_ _)); exact BK325.out⟩
          have n6_ : Aside0 (Below w.heap.size w ((((((((((((w34.setCell ⟨gb325, 0, none⟩ (.int .i64 t312)).setCell ⟨gb325, 1, none⟩ (.int .i64 t313)).setCell ⟨gb325, 2, none⟩ (.int .i64 t314)).setCell ⟨gb325, 3, none⟩ (.int .i64 t315)).setCell ⟨gb325, 4, none⟩ (.int .i64 t316)).setCell ⟨gb325, 5, none⟩ (.int .i64 t317)).setCell ⟨gb325, 6, none⟩ (.int .i64 t318)).setCell ⟨gb325, 7, none⟩ (.int .i64 t319)).setCell ⟨gb325, 8, none⟩ (.int .i64 t320)).setCell ⟨gb325, 9, none⟩ (.int .i64 t321)).setCell ⟨gb325, 10, none⟩ (.int .i64 t322)).setCell ⟨gb325, 11, none⟩ (.int .i64 t323))) := ⟨by repeat (first | (with_reducible first | exact HB.out | apply below_alloc | apply pw_below_drewN | apply below_drew1 | refine below_set ?_ GE286.out | refine below_set ?_ GE311.out | refine below_set ?_ GE325.out) | exact HB.out)⟩
          (try clear HO289)
          (try clear HO293)
          (try clear HO297)
          (try clear BK286)
          (try clear BK311)
          (try clear BK325)
          (try clear HB)
          generalize ((((((((((((w34.setCell ⟨gb325, 0, none⟩ (.int .i64 t312)).setCell ⟨gb325, 1, none⟩ (.int .i64 t313)).setCell ⟨gb325, 2, none⟩ (.int .i64 t314)).setCell ⟨gb325, 3, none⟩ (.int .i64 t315)).setCell ⟨gb325, 4, none⟩ (.int .i64 t316)).setCell ⟨gb325, 5, none⟩ (.int .i64 t317)).setCell ⟨gb325, 6, none⟩ (.int .i64 t318)).setCell ⟨gb325, 7, none⟩ (.int .i64 t319)).setCell ⟨gb325, 8, none⟩ (.int .i64 t320)).setCell ⟨gb325, 9, none⟩ (.int .i64 t321)).setCell ⟨gb325, 10, none⟩ (.int .i64 t322)).setCell ⟨gb325, 11, none⟩ (.int .i64 t323)) = w38 at n0_ n1_ n2_ n3_ n4_ n5_ n6_ ⊢
          have HO289 := n0_
          have HO293 := n1_
          have HO297 := n2_
          have BK286 := n3_
          have BK311 := n4_
          have BK325 := n5_
          have HB := n6_
          clear n0_ n1_ n2_ n3_ n4_ n5_ n6_
          have n0_ := Aside0.mk (Kd.R_drew HO289.out)
          have n1_ := Aside0.mk (Kd.R_drew HO293.out)
          have n2_ := Aside0.mk (TQ.Q_drew HO297.out)
          have n3_ := Aside0.mk (blk_drew BK286.out)
          have n4_ := Aside0.mk (blk_drew BK311.out)
          have n5_ := Aside0.mk (blk_drew BK325.out)
          have n6_ := Aside0.mk (below_drew1 HB.out)
          clear HO289
          clear HO293
          clear HO297
          clear BK286
          clear BK311
          clear BK325
          clear HB
          have HO289 := n0_
          have HO293 := n1_
          have HO297 := n2_
          have BK286 := n3_
          have BK311 := n4_
          have BK325 := n5_
          have HB := n6_
          clear n0_ n1_ n2_ n3_ n4_ n5_ n6_
          refine start_ (n := 33) (S := fun w' => w'.cell? ⟨gb311, 0, none⟩ = some (.int .i64 t298) ∧ w'.cell? ⟨gb311, 1, none⟩ = some (.int .i64 t299) ∧ w'.cell? ⟨gb311, 2, none⟩ = some (.int .i64 t300) ∧ w'.cell? ⟨gb311, 3, none⟩ = some (.int .i64 t301) ∧ w'.cell? ⟨gb311, 4, none⟩ = some (.int .i64 t302) ∧ w'.cell? ⟨gb311, 5, none⟩ = some (.int .i64 t303) ∧ w'.cell? ⟨gb311, 6, none⟩ = some (.int .i64 t304) ∧ w'.cell? ⟨gb311, 7, none⟩ = some (.int .i64 t305) ∧ w'.cell? ⟨gb311, 8, none⟩ = some (.int .i64 t306) ∧ w'.cell? ⟨gb311, 9, none⟩ = some (.int .i64 t307) ∧ w'.cell? ⟨gb311, 10, none⟩ = some (.int .i64 t308) ∧ w'.cell? ⟨gb311, 11, none⟩ = some (.int .i64 t309) ∧ w'.cell? ⟨gb325, 0, none⟩ = some (.int .i64 t312) ∧ w'.cell? ⟨gb325, 1, none⟩ = some (.int .i64 t313) ∧ w'.cell? ⟨gb325, 2, none⟩ = some (.int .i64 t314) ∧ w'.cell? ⟨gb325, 3, none⟩ = some (.int .i64 t315) ∧ w'.cell? ⟨gb325, 4, none⟩ = some (.int .i64 t316) ∧ w'.cell? ⟨gb325, 5, none⟩ = some (.int .i64 t317) ∧ w'.cell? ⟨gb325, 6, none⟩ = some (.int .i64 t318) ∧ w'.cell? ⟨gb325, 7, none⟩ = some (.int .i64 t319) ∧ w'.cell? ⟨gb325, 8, none⟩ = some (.int .i64 t320) ∧ w'.cell? ⟨gb325, 9, none⟩ = some (.int .i64 t321) ∧ w'.cell? ⟨gb325, 10, none⟩ = some (.int .i64 t322) ∧ w'.cell? ⟨gb325, 11, none⟩ = some (.int .i64 t323) ∧ w'.cell? ⟨gb286, 0, none⟩ = some (.int .i64 a0_0) ∧ w'.cell? ⟨gb286, 1, none⟩ = some (.int .i64 a0_1) ∧ w'.cell? ⟨gb286, 2, none⟩ = some (.int .i64 a0_2) ∧ w'.cell? ⟨gb286, 3, none⟩ = some (.int .i64 a0_3) ∧ w'.cell? ⟨gb286, 4, none⟩ = some (.int .i64 a0_4) ∧ w'.cell? ⟨gb286, 5, none⟩ = some (.int .i64 a0_5) ∧ w'.cell? ⟨gb286, 6, none⟩ = some (.int .i64 a0_6) ∧ w'.cell? ⟨gb286, 7, none⟩ = some (.int .i64 a0_7) ∧ w'.cell? ⟨gb286, 8, none⟩ = some (.int .i64 a0_8) ∧ w'.cell? ⟨gb286, 9, none⟩ = some (.int .i64 a0_9) ∧ w'.cell? ⟨gb286, 10, none⟩ = some (.int .i64 a0_10) ∧ w'.cell? ⟨gb286, 11, none⟩ = some (.int .i64 a0_11)) (ds := []) #[false, false, false, false, false, false, false, false, false, false, false, false, false, false, false, false, false, false, false, false, false, false, false, false, false, false, false, false, false, false, false, false, false] (by kernel_rfl) rfl rfl ⟨(blk_cell BK311.out 0).trans rfl, (blk_cell BK311.out 1).trans rfl, (blk_cell BK311.out 2).trans rfl, (blk_cell BK311.out 3).trans rfl, (blk_cell BK311.out 4).trans rfl, (blk_cell BK311.out 5).trans rfl, (blk_cell BK311.out 6).trans rfl, (blk_cell BK311.out 7).trans rfl, (blk_cell BK311.out 8).trans rfl, (blk_cell BK311.out 9).trans rfl, (blk_cell BK311.out 10).trans rfl, (blk_cell BK311.out 11).trans rfl, (blk_cell BK325.out 0).trans rfl, (blk_cell BK325.out 1).trans rfl, (blk_cell BK325.out 2).trans rfl, (blk_cell BK325.out 3).trans rfl, (blk_cell BK325.out 4).trans rfl, (blk_cell BK325.out 5).trans rfl, (blk_cell BK325.out 6).trans rfl, (blk_cell BK325.out 7).trans rfl, (blk_cell BK325.out 8).trans rfl, (blk_cell BK325.out 9).trans rfl, (blk_cell BK325.out 10).trans rfl, (blk_cell BK325.out 11).trans rfl, (blk_cell BK286.out 0).trans rfl, (blk_cell BK286.out 1).trans rfl, (blk_cell BK286.out 2).trans rfl, (blk_cell BK286.out 3).trans rfl, (blk_cell BK286.out 4).trans rfl, (blk_cell BK286.out 5).trans rfl, (blk_cell BK286.out 6).trans rfl, (blk_cell BK286.out 7).trans rfl, (blk_cell BK286.out 8).trans rfl, (blk_cell BK286.out 9).trans rfl, (blk_cell BK286.out 10).trans rfl, (blk_cell BK286.out 11).trans rfl⟩ (fun hHeld => ?_); refine with_tabW leveelaw07_InodeBytes.tab6 leveelaw07_InodeBytes.bits6 (fun HT_ HW_ => ?_)
          generalize w38.drew = w39 at HO289 HO293 HO297 BK286 BK311 BK325 HB hHeld ⊢
          refine pure_ (i := 0) (N := some 38) (v := ?_) (a' := ?_) #[true, false, false, false, false, false, false, false, false, false, false, false, false, false, false, false, false, false, false, false, false, false, false, false, false, false, false, false, false, false, false, false, false] rfl rfl (any_of HT_.out (by kernel_rfl)) (fun _ _ _ h => h) (Or.inl ⟨by rfl, ?_⟩) ?_ ?_
          rotate_left
          ·intro w'
           go_simp
           with_reducible rfl
          rotate_left
          ·simp only [Act.put, List.setIfInBounds_toArray, List.set_cons_zero, List.set_cons_succ, i64_w, i32_w]
           rfl
          refine pure_ (i := 2) (N := some 40) (v := ?_) (a' := ?_) #[true, false, true, false, false, false, false, false, false, false, false, false, false, false, false, false, false, false, false, false, false, false, false, false, false, false, false, false, false, false, false, false, false] rfl rfl (any_of HT_.out (by kernel_rfl)) (fun _ _ _ h => h) (Or.inl ⟨by rfl, ?_⟩) ?_ ?_
          rotate_left
          ·intro w'
           go_simp
           with_reducible rfl
          rotate_left
          ·simp only [Act.put, List.setIfInBounds_toArray, List.set_cons_zero, List.set_cons_succ, i64_w, i32_w]
           rfl
          refine join_ (σ := Unit) 29 #[true, true, true, true, false, false, false, false, false, false, false, false, false, false, false, false, false, false, false, false, false, false, false, false, false, false, false, false, false, false, false, false, false] (fun s_ => [(39, .string (strOfNums t287)), (41, .string (strOfNums t291))]) (fun s_ w' => (w'.cell? ⟨gb311, 0, none⟩ = some (.int .i64 t298) ∧ w'.cell? ⟨gb311, 1, none⟩ = some (.int .i64 t299) ∧ w'.cell? ⟨gb311, 2, none⟩ = some (.int .i64 t300) ∧ w'.cell? ⟨gb311, 3, none⟩ = some (.int .i64 t301) ∧ w'.cell? ⟨gb311, 4, none⟩ = some (.int .i64 t302) ∧ w'.cell? ⟨gb311, 5, none⟩ = some (.int .i64 t303) ∧ w'.cell? ⟨gb311, 6, none⟩ = some (.int .i64 t304) ∧ w'.cell? ⟨gb311, 7, none⟩ = some (.int .i64 t305) ∧ w'.cell? ⟨gb311, 8, none⟩ = some (.int .i64 t306) ∧ w'.cell? ⟨gb311, 9, none⟩ = some (.int .i64 t307) ∧ w'.cell? ⟨gb311, 10, none⟩ = some (.int .i64 t308) ∧ w'.cell? ⟨gb311, 11, none⟩ = some (.int .i64 t309) ∧ w'.cell? ⟨gb325, 0, none⟩ = some (.int .i64 t312) ∧ w'.cell? ⟨gb325, 1, none⟩ = some (.int .i64 t313) ∧ w'.cell? ⟨gb325, 2, none⟩ = some (.int .i64 t314) ∧ w'.cell? ⟨gb325, 3, none⟩ = some (.int .i64 t315) ∧ w'.cell? ⟨gb325, 4, none⟩ = some (.int .i64 t316) ∧ w'.cell? ⟨gb325, 5, none⟩ = some (.int .i64 t317) ∧ w'.cell? ⟨gb325, 6, none⟩ = some (.int .i64 t318) ∧ w'.cell? ⟨gb325, 7, none⟩ = some (.int .i64 t319) ∧ w'.cell? ⟨gb325, 8, none⟩ = some (.int .i64 t320) ∧ w'.cell? ⟨gb325, 9, none⟩ = some (.int .i64 t321) ∧ w'.cell? ⟨gb325, 10, none⟩ = some (.int .i64 t322) ∧ w'.cell? ⟨gb325, 11, none⟩ = some (.int .i64 t323) ∧ w'.cell? ⟨gb286, 0, none⟩ = some (.int .i64 a0_0) ∧ w'.cell? ⟨gb286, 1, none⟩ = some (.int .i64 a0_1) ∧ w'.cell? ⟨gb286, 2, none⟩ = some (.int .i64 a0_2) ∧ w'.cell? ⟨gb286, 3, none⟩ = some (.int .i64 a0_3) ∧ w'.cell? ⟨gb286, 4, none⟩ = some (.int .i64 a0_4) ∧ w'.cell? ⟨gb286, 5, none⟩ = some (.int .i64 a0_5) ∧ w'.cell? ⟨gb286, 6, none⟩ = some (.int .i64 a0_6) ∧ w'.cell? ⟨gb286, 7, none⟩ = some (.int .i64 a0_7) ∧ w'.cell? ⟨gb286, 8, none⟩ = some (.int .i64 a0_8) ∧ w'.cell? ⟨gb286, 9, none⟩ = some (.int .i64 a0_9) ∧ w'.cell? ⟨gb286, 10, none⟩ = some (.int .i64 a0_10) ∧ w'.cell? ⟨gb286, 11, none⟩ = some (.int .i64 a0_11)) ∧ (Kd.R (Kd.int .u8) 5 w' w.heap.size (fun k_ => some k_ ≠ (v292 : Value).ownBlock ∧ some k_ ≠ (.slice Ao28 t295.length co28 : Value).ownBlock) v288 t287) ∧ (Kd.R (Kd.int .u8) 5 w' w.heap.size (fun k_ => some k_ ≠ (v288 : Value).ownBlock ∧ some k_ ≠ (.slice Ao28 t295.length co28 : Value).ownBlock) v292 t291) ∧ (TQ.Q (Kd.int .u8) 5 w' w.heap.size (fun k_ => some k_ ≠ (v288 : Value).ownBlock ∧ some k_ ≠ (v292 : Value).ownBlock) (.slice Ao28 t295.length co28) t295) ∧ (w'.heap[gb286]? = some (.cells #[.int .i64 a0_0, .int .i64 a0_1, .int .i64 a0_2, .int .i64 a0_3, .int .i64 a0_4, .int .i64 a0_5, .int .i64 a0_6, .int .i64 a0_7, .int .i64 a0_8, .int .i64 a0_9, .int .i64 a0_10, .int .i64 a0_11] 24 (0, 0))) ∧ (w'.heap[gb311]? = some (.cells #[.int .i64 t298, .int .i64 t299, .int .i64 t300, .int .i64 t301, .int .i64 t302, .int .i64 t303, .int .i64 t304, .int .i64 t305, .int .i64 t306, .int .i64 t307, .int .i64 t308, .int .i64 t309] 24 (0, 0))) ∧ (w'.heap[gb325]? = some (.cells #[.int .i64 t312, .int .i64 t313, .int .i64 t314, .int .i64 t315, .int .i64 t316, .int .i64 t317, .int .i64 t318, .int .i64 t319, .int .i64 t320, .int .i64 t321, .int .i64 t322, .int .i64 t323] 24 (0, 0))) ∧ (Below w.heap.size w w')) ?_ ?_
          rotate_left
          ·intro hCont
           refine two_ (i := 1) (j := 3) (Ni := some 39) (Nj := some 41) #[true, true, true, false, false, false, false, false, false, false, false, false, false, false, false, false, false, false, false, false, false, false, false, false, false, false, false, false, false, false, false, false, false] #[true, false, true, true, false, false, false, false, false, false, false, false, false, false, false, false, false, false, false, false, false, false, false, false, false, false, false, false, false, false, false, false, false] rfl rfl rfl rfl (two_of HT_.out (by kernel_rfl)) (by decide) (by decide) (fun K hK => ?_) (fun K hK => ?_)
           ·skip
            have hcv40 := own_string (P := Try.prog) Try.underlying25 Try.underlying5 Try.underlying9 (Kd.own_of_R HO289.out)
            refine value_ (w1 := ?_) (v := ?_) (by rfl) rfl ?_ ?_
            rotate_left 2
            ·go_simp
             constructor
             ·rfl
             ·rfl
            clear hcv40
            refine hK.out _ _ ⟨(blk_cell BK311.out 0).trans rfl, (blk_cell BK311.out 1).trans rfl, (blk_cell BK311.out 2).trans rfl, (blk_cell BK311.out 3).trans rfl, (blk_cell BK311.out 4).trans rfl, (blk_cell BK311.out 5).trans rfl, (blk_cell BK311.out 6).trans rfl, (blk_cell BK311.out 7).trans rfl, (blk_cell BK311.out 8).trans rfl, (blk_cell BK311.out 9).trans rfl, (blk_cell BK311.out 10).trans rfl, (blk_cell BK311.out 11).trans rfl, (blk_cell BK325.out 0).trans rfl, (blk_cell BK325.out 1).trans rfl, (blk_cell BK325.out 2).trans rfl, (blk_cell BK325.out 3).trans rfl, (blk_cell BK325.out 4).trans rfl, (blk_cell BK325.out 5).trans rfl, (blk_cell BK325.out 6).trans rfl, (blk_cell BK325.out 7).trans rfl, (blk_cell BK325.out 8).trans rfl, (blk_cell BK325.out 9).trans rfl, (blk_cell BK325.out 10).trans rfl, (blk_cell BK325.out 11).trans rfl, (blk_cell BK286.out 0).trans rfl, (blk_cell BK286.out 1).trans rfl, (blk_cell BK286.out 2).trans rfl, (blk_cell BK286.out 3).trans rfl, (blk_cell BK286.out 4).trans rfl, (blk_cell BK286.out 5).trans rfl, (blk_cell BK286.out 6).trans rfl, (blk_cell BK286.out 7).trans rfl, (blk_cell BK286.out 8).trans rfl, (blk_cell BK286.out 9).trans rfl, (blk_cell BK286.out 10).trans rfl, (blk_cell BK286.out 11).trans rfl⟩ (fun hHeld => ?_)
            clear hK K
            refine norm_ (a' := ?_) ?_ ?_
            rotate_left
            ·show Act.put _ (some 39) _ = _
             simp only [Act.put, List.setIfInBounds_toArray, List.set_cons_zero, List.set_cons_succ, i64_w, i32_w]
             rfl
            refine one_ (i := 3) (N := some 41) #[true, true, true, true, false, false, false, false, false, false, false, false, false, false, false, false, false, false, false, false, false, false, false, false, false, false, false, false, false, false, false, false, false] rfl rfl (one_of HT_.out (by kernel_rfl)) (by decide) (fun K hK => ?_)
            have hcv41 := own_string (P := Try.prog) Try.underlying25 Try.underlying5 Try.underlying9 (Kd.own_of_R HO293.out)
            refine value_ (w1 := ?_) (v := ?_) (by rfl) rfl ?_ ?_
            rotate_left 2
            ·go_simp
             constructor
             ·rfl
             ·rfl
            clear hcv41
            refine hK.out _ _ ⟨(blk_cell BK311.out 0).trans rfl, (blk_cell BK311.out 1).trans rfl, (blk_cell BK311.out 2).trans rfl, (blk_cell BK311.out 3).trans rfl, (blk_cell BK311.out 4).trans rfl, (blk_cell BK311.out 5).trans rfl, (blk_cell BK311.out 6).trans rfl, (blk_cell BK311.out 7).trans rfl, (blk_cell BK311.out 8).trans rfl, (blk_cell BK311.out 9).trans rfl, (blk_cell BK311.out 10).trans rfl, (blk_cell BK311.out 11).trans rfl, (blk_cell BK325.out 0).trans rfl, (blk_cell BK325.out 1).trans rfl, (blk_cell BK325.out 2).trans rfl, (blk_cell BK325.out 3).trans rfl, (blk_cell BK325.out 4).trans rfl, (blk_cell BK325.out 5).trans rfl, (blk_cell BK325.out 6).trans rfl, (blk_cell BK325.out 7).trans rfl, (blk_cell BK325.out 8).trans rfl, (blk_cell BK325.out 9).trans rfl, (blk_cell BK325.out 10).trans rfl, (blk_cell BK325.out 11).trans rfl, (blk_cell BK286.out 0).trans rfl, (blk_cell BK286.out 1).trans rfl, (blk_cell BK286.out 2).trans rfl, (blk_cell BK286.out 3).trans rfl, (blk_cell BK286.out 4).trans rfl, (blk_cell BK286.out 5).trans rfl, (blk_cell BK286.out 6).trans rfl, (blk_cell BK286.out 7).trans rfl, (blk_cell BK286.out 8).trans rfl, (blk_cell BK286.out 9).trans rfl, (blk_cell BK286.out 10).trans rfl, (blk_cell BK286.out 11).trans rfl⟩ (fun hHeld => ?_)
            clear hK K
            refine norm_ (a' := ?_) ?_ ?_
            rotate_left
            ·show Act.put _ (some 41) _ = _
             simp only [Act.put, List.setIfInBounds_toArray, List.set_cons_zero, List.set_cons_succ, i64_w, i32_w]
             rfl
            exact norm_ (by simp only [putAll, Act.put, List.setIfInBounds_toArray, List.set_cons_zero, List.set_cons_succ]) (hCont () _ ⟨hHeld, (by (with_reducible repeat (first | apply Kd.R_alloc | apply Kd.R_drewN | apply Kd.R_drew)); exact HO289.out), (by (with_reducible repeat (first | apply Kd.R_alloc | apply Kd.R_drewN | apply Kd.R_drew)); exact HO293.out), (by (with_reducible repeat (first | apply TQ.Q_alloc | apply TQ.Q_drewN | apply TQ.Q_drew)); exact HO297.out), (by (with_reducible repeat (first | refine blk_drewN ?_ _ | refine blk_drew ?_ | refine blk_alloc ?_ _)); exact BK286.out), (by (with_reducible repeat (first | refine blk_drewN ?_ _ | refine blk_drew ?_ | refine blk_alloc ?_ _)); exact BK311.out), (by (with_reducible repeat (first | refine blk_drewN ?_ _ | refine blk_drew ?_ | refine blk_alloc ?_ _)); exact BK325.out), (by repeat (first | (with_reducible first | exact HB.out | apply below_alloc | apply pw_below_drewN | apply below_drew1 | refine below_set ?_ GE286.out | refine below_set ?_ GE311.out | refine below_set ?_ GE325.out) | exact HB.out))⟩)
           ·skip
            have hcv40 := own_string (P := Try.prog) Try.underlying25 Try.underlying5 Try.underlying9 (Kd.own_of_R HO293.out)
            refine value_ (w1 := ?_) (v := ?_) (by rfl) rfl ?_ ?_
            rotate_left 2
            ·go_simp
             constructor
             ·rfl
             ·rfl
            clear hcv40
            refine hK.out _ _ ⟨(blk_cell BK311.out 0).trans rfl, (blk_cell BK311.out 1).trans rfl, (blk_cell BK311.out 2).trans rfl, (blk_cell BK311.out 3).trans rfl, (blk_cell BK311.out 4).trans rfl, (blk_cell BK311.out 5).trans rfl, (blk_cell BK311.out 6).trans rfl, (blk_cell BK311.out 7).trans rfl, (blk_cell BK311.out 8).trans rfl, (blk_cell BK311.out 9).trans rfl, (blk_cell BK311.out 10).trans rfl, (blk_cell BK311.out 11).trans rfl, (blk_cell BK325.out 0).trans rfl, (blk_cell BK325.out 1).trans rfl, (blk_cell BK325.out 2).trans rfl, (blk_cell BK325.out 3).trans rfl, (blk_cell BK325.out 4).trans rfl, (blk_cell BK325.out 5).trans rfl, (blk_cell BK325.out 6).trans rfl, (blk_cell BK325.out 7).trans rfl, (blk_cell BK325.out 8).trans rfl, (blk_cell BK325.out 9).trans rfl, (blk_cell BK325.out 10).trans rfl, (blk_cell BK325.out 11).trans rfl, (blk_cell BK286.out 0).trans rfl, (blk_cell BK286.out 1).trans rfl, (blk_cell BK286.out 2).trans rfl, (blk_cell BK286.out 3).trans rfl, (blk_cell BK286.out 4).trans rfl, (blk_cell BK286.out 5).trans rfl, (blk_cell BK286.out 6).trans rfl, (blk_cell BK286.out 7).trans rfl, (blk_cell BK286.out 8).trans rfl, (blk_cell BK286.out 9).trans rfl, (blk_cell BK286.out 10).trans rfl, (blk_cell BK286.out 11).trans rfl⟩ (fun hHeld => ?_)
            clear hK K
            refine norm_ (a' := ?_) ?_ ?_
            rotate_left
            ·show Act.put _ (some 41) _ = _
             simp only [Act.put, List.setIfInBounds_toArray, List.set_cons_zero, List.set_cons_succ, i64_w, i32_w]
             rfl
            refine one_ (i := 1) (N := some 39) #[true, true, true, true, false, false, false, false, false, false, false, false, false, false, false, false, false, false, false, false, false, false, false, false, false, false, false, false, false, false, false, false, false] rfl rfl (one_of HT_.out (by kernel_rfl)) (by decide) (fun K hK => ?_)
            have hcv41 := own_string (P := Try.prog) Try.underlying25 Try.underlying5 Try.underlying9 (Kd.own_of_R HO289.out)
            refine value_ (w1 := ?_) (v := ?_) (by rfl) rfl ?_ ?_
            rotate_left 2
            ·go_simp
             constructor
             ·rfl
             ·rfl
            clear hcv41
            refine hK.out _ _ ⟨(blk_cell BK311.out 0).trans rfl, (blk_cell BK311.out 1).trans rfl, (blk_cell BK311.out 2).trans rfl, (blk_cell BK311.out 3).trans rfl, (blk_cell BK311.out 4).trans rfl, (blk_cell BK311.out 5).trans rfl, (blk_cell BK311.out 6).trans rfl, (blk_cell BK311.out 7).trans rfl, (blk_cell BK311.out 8).trans rfl, (blk_cell BK311.out 9).trans rfl, (blk_cell BK311.out 10).trans rfl, (blk_cell BK311.out 11).trans rfl, (blk_cell BK325.out 0).trans rfl, (blk_cell BK325.out 1).trans rfl, (blk_cell BK325.out 2).trans rfl, (blk_cell BK325.out 3).trans rfl, (blk_cell BK325.out 4).trans rfl, (blk_cell BK325.out 5).trans rfl, (blk_cell BK325.out 6).trans rfl, (blk_cell BK325.out 7).trans rfl, (blk_cell BK325.out 8).trans rfl, (blk_cell BK325.out 9).trans rfl, (blk_cell BK325.out 10).trans rfl, (blk_cell BK325.out 11).trans rfl, (blk_cell BK286.out 0).trans rfl, (blk_cell BK286.out 1).trans rfl, (blk_cell BK286.out 2).trans rfl, (blk_cell BK286.out 3).trans rfl, (blk_cell BK286.out 4).trans rfl, (blk_cell BK286.out 5).trans rfl, (blk_cell BK286.out 6).trans rfl, (blk_cell BK286.out 7).trans rfl, (blk_cell BK286.out 8).trans rfl, (blk_cell BK286.out 9).trans rfl, (blk_cell BK286.out 10).trans rfl, (blk_cell BK286.out 11).trans rfl⟩ (fun hHeld => ?_)
            clear hK K
            refine norm_ (a' := ?_) ?_ ?_
            rotate_left
            ·show Act.put _ (some 39) _ = _
             simp only [Act.put, List.setIfInBounds_toArray, List.set_cons_zero, List.set_cons_succ, i64_w, i32_w]
             rfl
            exact norm_ (by simp only [putAll, Act.put, List.setIfInBounds_toArray, List.set_cons_zero, List.set_cons_succ]) (hCont () _ ⟨hHeld, (by (with_reducible repeat (first | apply Kd.R_alloc | apply Kd.R_drewN | apply Kd.R_drew)); exact HO289.out), (by (with_reducible repeat (first | apply Kd.R_alloc | apply Kd.R_drewN | apply Kd.R_drew)); exact HO293.out), (by (with_reducible repeat (first | apply TQ.Q_alloc | apply TQ.Q_drewN | apply TQ.Q_drew)); exact HO297.out), (by (with_reducible repeat (first | refine blk_drewN ?_ _ | refine blk_drew ?_ | refine blk_alloc ?_ _)); exact BK286.out), (by (with_reducible repeat (first | refine blk_drewN ?_ _ | refine blk_drew ?_ | refine blk_alloc ?_ _)); exact BK311.out), (by (with_reducible repeat (first | refine blk_drewN ?_ _ | refine blk_drew ?_ | refine blk_alloc ?_ _)); exact BK325.out), (by repeat (first | (with_reducible first | exact HB.out | apply below_alloc | apply pw_below_drewN | apply below_drew1 | refine below_set ?_ GE286.out | refine below_set ?_ GE311.out | refine below_set ?_ GE325.out) | exact HB.out))⟩)
          rintro _ w42 ⟨hS_, h0_, h1_, h2_, h3_, h4_, h5_, h6_⟩
          have n0_ : Aside0 (Kd.R (Kd.int .u8) 5 w42 w.heap.size (fun k_ => some k_ ≠ (v292 : Value).ownBlock ∧ some k_ ≠ (.slice Ao28 t295.length co28 : Value).ownBlock) v288 t287) := ⟨h0_⟩
          have n1_ : Aside0 (Kd.R (Kd.int .u8) 5 w42 w.heap.size (fun k_ => some k_ ≠ (v288 : Value).ownBlock ∧ some k_ ≠ (.slice Ao28 t295.length co28 : Value).ownBlock) v292 t291) := ⟨h1_⟩
          have n2_ : Aside0 (TQ.Q (Kd.int .u8) 5 w42 w.heap.size (fun k_ => some k_ ≠ (v288 : Value).ownBlock ∧ some k_ ≠ (v292 : Value).ownBlock) (.slice Ao28 t295.length co28) t295) := ⟨h2_⟩
          have n3_ : Aside0 (w42.heap[gb286]? = some (.cells #[.int .i64 a0_0, .int .i64 a0_1, .int .i64 a0_2, .int .i64 a0_3, .int .i64 a0_4, .int .i64 a0_5, .int .i64 a0_6, .int .i64 a0_7, .int .i64 a0_8, .int .i64 a0_9, .int .i64 a0_10, .int .i64 a0_11] 24 (0, 0))) := ⟨h3_⟩
          have n4_ : Aside0 (w42.heap[gb311]? = some (.cells #[.int .i64 t298, .int .i64 t299, .int .i64 t300, .int .i64 t301, .int .i64 t302, .int .i64 t303, .int .i64 t304, .int .i64 t305, .int .i64 t306, .int .i64 t307, .int .i64 t308, .int .i64 t309] 24 (0, 0))) := ⟨h4_⟩
          have n5_ : Aside0 (w42.heap[gb325]? = some (.cells #[.int .i64 t312, .int .i64 t313, .int .i64 t314, .int .i64 t315, .int .i64 t316, .int .i64 t317, .int .i64 t318, .int .i64 t319, .int .i64 t320, .int .i64 t321, .int .i64 t322, .int .i64 t323] 24 (0, 0))) := ⟨h5_⟩
          have n6_ : Aside0 (Below w.heap.size w w42) := ⟨h6_⟩
          clear HO289
          clear HO293
          clear HO297
          clear BK286
          clear BK311
          clear BK325
          clear HB
          clear h0_ h1_ h2_ h3_ h4_ h5_ h6_
          have HO289 := n0_
          have HO293 := n1_
          have HO297 := n2_
          have BK286 := n3_
          have BK311 := n4_
          have BK325 := n5_
          have HB := n6_
          clear n0_ n1_ n2_ n3_ n4_ n5_ n6_
          have hHeld : w42.cell? ⟨gb311, 0, none⟩ = some (.int .i64 t298) ∧ w42.cell? ⟨gb311, 1, none⟩ = some (.int .i64 t299) ∧ w42.cell? ⟨gb311, 2, none⟩ = some (.int .i64 t300) ∧ w42.cell? ⟨gb311, 3, none⟩ = some (.int .i64 t301) ∧ w42.cell? ⟨gb311, 4, none⟩ = some (.int .i64 t302) ∧ w42.cell? ⟨gb311, 5, none⟩ = some (.int .i64 t303) ∧ w42.cell? ⟨gb311, 6, none⟩ = some (.int .i64 t304) ∧ w42.cell? ⟨gb311, 7, none⟩ = some (.int .i64 t305) ∧ w42.cell? ⟨gb311, 8, none⟩ = some (.int .i64 t306) ∧ w42.cell? ⟨gb311, 9, none⟩ = some (.int .i64 t307) ∧ w42.cell? ⟨gb311, 10, none⟩ = some (.int .i64 t308) ∧ w42.cell? ⟨gb311, 11, none⟩ = some (.int .i64 t309) ∧ w42.cell? ⟨gb325, 0, none⟩ = some (.int .i64 t312) ∧ w42.cell? ⟨gb325, 1, none⟩ = some (.int .i64 t313) ∧ w42.cell? ⟨gb325, 2, none⟩ = some (.int .i64 t314) ∧ w42.cell? ⟨gb325, 3, none⟩ = some (.int .i64 t315) ∧ w42.cell? ⟨gb325, 4, none⟩ = some (.int .i64 t316) ∧ w42.cell? ⟨gb325, 5, none⟩ = some (.int .i64 t317) ∧ w42.cell? ⟨gb325, 6, none⟩ = some (.int .i64 t318) ∧ w42.cell? ⟨gb325, 7, none⟩ = some (.int .i64 t319) ∧ w42.cell? ⟨gb325, 8, none⟩ = some (.int .i64 t320) ∧ w42.cell? ⟨gb325, 9, none⟩ = some (.int .i64 t321) ∧ w42.cell? ⟨gb325, 10, none⟩ = some (.int .i64 t322) ∧ w42.cell? ⟨gb325, 11, none⟩ = some (.int .i64 t323) ∧ w42.cell? ⟨gb286, 0, none⟩ = some (.int .i64 a0_0) ∧ w42.cell? ⟨gb286, 1, none⟩ = some (.int .i64 a0_1) ∧ w42.cell? ⟨gb286, 2, none⟩ = some (.int .i64 a0_2) ∧ w42.cell? ⟨gb286, 3, none⟩ = some (.int .i64 a0_3) ∧ w42.cell? ⟨gb286, 4, none⟩ = some (.int .i64 a0_4) ∧ w42.cell? ⟨gb286, 5, none⟩ = some (.int .i64 a0_5) ∧ w42.cell? ⟨gb286, 6, none⟩ = some (.int .i64 a0_6) ∧ w42.cell? ⟨gb286, 7, none⟩ = some (.int .i64 a0_7) ∧ w42.cell? ⟨gb286, 8, none⟩ = some (.int .i64 a0_8) ∧ w42.cell? ⟨gb286, 9, none⟩ = some (.int .i64 a0_9) ∧ w42.cell? ⟨gb286, 10, none⟩ = some (.int .i64 a0_10) ∧ w42.cell? ⟨gb286, 11, none⟩ = some (.int .i64 a0_11) := hS_
          refine norm_ (a' := ?_) ?_ ?_
          rotate_left
          ·simp only [putAll, Act.put, List.setIfInBounds_toArray, List.set_cons_zero, List.set_cons_succ]
           rfl
          refine pure_ (i := 4) (N := some 42) (v := ?_) (a' := ?_) #[true, true, true, true, true, false, false, false, false, false, false, false, false, false, false, false, false, false, false, false, false, false, false, false, false, false, false, false, false, false, false, false, false] rfl rfl (any_of HT_.out (by kernel_rfl)) (fun _ _ _ h => h) (Or.inl ⟨by rfl, ?_⟩) ?_ ?_
          rotate_left
          ·intro w'
           go_simp
           with_reducible rfl
          rotate_left
          ·simp only [Act.put, List.setIfInBounds_toArray, List.set_cons_zero, List.set_cons_succ, i64_w, i32_w]
           rfl
          refine pure_ (i := 5) (N := some 43) (v := ?_) (a' := ?_) #[true, true, true, true, true, true, false, false, false, false, false, false, false, false, false, false, false, false, false, false, false, false, false, false, false, false, false, false, false, false, false, false, false] rfl rfl (any_of HT_.out (by kernel_rfl)) (fun _ _ _ h => h) (Or.inl ⟨by rfl, ?_⟩) ?_ ?_
          rotate_left
          ·intro w'
           go_simp
           with_reducible rfl
          rotate_left
          ·simp only [Act.put, List.setIfInBounds_toArray, List.set_cons_zero, List.set_cons_succ, i64_w, i32_w]
           rfl
          refine pure_ (i := 6) (N := some 44) (v := ?_) (a' := ?_) #[true, true, true, true, true, true, true, false, false, false, false, false, false, false, false, false, false, false, false, false, false, false, false, false, false, false, false, false, false, false, false, false, false] rfl rfl (any_of HT_.out (by kernel_rfl)) (fun _ _ _ h => h) (Or.inl ⟨by rfl, ?_⟩) ?_ ?_
          rotate_left
          ·intro w'
           go_simp
           with_reducible rfl
          rotate_left
          ·simp only [Act.put, List.setIfInBounds_toArray, List.set_cons_zero, List.set_cons_succ, i64_w, i32_w]
           rfl
          refine pure_ (i := 7) (N := some 45) (v := ?_) (a' := ?_) #[true, true, true, true, true, true, true, true, false, false, false, false, false, false, false, false, false, false, false, false, false, false, false, false, false, false, false, false, false, false, false, false, false] rfl rfl (any_of HT_.out (by kernel_rfl)) (fun _ _ _ h => h) (Or.inl ⟨by rfl, ?_⟩) ?_ ?_
          rotate_left
          ·intro w'
           go_simp
           with_reducible rfl
          rotate_left
          ·simp only [Act.put, List.setIfInBounds_toArray, List.set_cons_zero, List.set_cons_succ, i64_w, i32_w]
           rfl
          refine pure_ (i := 8) (N := some 46) (v := ?_) (a' := ?_) #[true, true, true, true, true, true, true, true, true, false, false, false, false, false, false, false, false, false, false, false, false, false, false, false, false, false, false, false, false, false, false, false, false] rfl rfl (any_of HT_.out (by kernel_rfl)) (fun _ _ _ h => h) (Or.inl ⟨by rfl, ?_⟩) ?_ ?_
          rotate_left
          ·intro w'
           go_simp
           with_reducible rfl
          rotate_left
          ·simp only [Act.put, List.setIfInBounds_toArray, List.set_cons_zero, List.set_cons_succ, i64_w, i32_w]
           rfl
          refine pure_ (i := 9) (N := some 47) (v := ?_) (a' := ?_) #[true, true, true, true, true, true, true, true, true, true, false, false, false, false, false, false, false, false, false, false, false, false, false, false, false, false, false, false, false, false, false, false, false] rfl rfl (any_of HT_.out (by kernel_rfl)) (fun _ _ _ h => h) (Or.inl ⟨by rfl, ?_⟩) ?_ ?_
          rotate_left
          ·intro w'
           go_simp
           with_reducible rfl
          rotate_left
          ·simp only [Act.put, List.setIfInBounds_toArray, List.set_cons_zero, List.set_cons_succ, i64_w, i32_w]
           rfl
          refine pure_ (i := 10) (N := some 48) (v := ?_) (a' := ?_) #[true, true, true, true, true, true, true, true, true, true, true, false, false, false, false, false, false, false, false, false, false, false, false, false, false, false, false, false, false, false, false, false, false] rfl rfl (any_of HT_.out (by kernel_rfl)) (fun _ _ _ h => h) (Or.inl ⟨by rfl, ?_⟩) ?_ ?_
          rotate_left
          ·intro w'
           go_simp
           with_reducible rfl
          rotate_left
          ·simp only [Act.put, List.setIfInBounds_toArray, List.set_cons_zero, List.set_cons_succ, i64_w, i32_w]
           rfl
          refine take_ (i := 11) (N := some 49) (v := ?_) (a' := ?_) #[true, true, true, true, true, true, true, true, true, true, true, true, false, false, false, false, false, false, false, false, false, false, false, false, false, false, false, false, false, false, false, false, false] rfl rfl (take_ofW HT_.out HW_.out (by kernel_rfl)) (fun _ _ _ h => h) (Or.inl ⟨by rfl, ?_⟩) hHeld ?_ ?_
          rotate_left
          ·rintro w' ⟨s0, s1, s2, s3, s4, s5, s6, s7, s8, s9, s10, s11, s12, s13, s14, s15, s16, s17, s18, s19, s20, s21, s22, s23, s24, s25, s26, s27, s28, s29, s30, s31, s32, s33, s34, s35⟩
           go_simp
           with_reducible rfl
          rotate_left
          ·simp only [Act.put, List.setIfInBounds_toArray, List.set_cons_zero, List.set_cons_succ, i64_w, i32_w]
           rfl
          refine take_ (i := 12) (N := some 50) (v := ?_) (a' := ?_) #[true, true, true, true, true, true, true, true, true, true, true, true, true, false, false, false, false, false, false, false, false, false, false, false, false, false, false, false, false, false, false, false, false] rfl rfl (take_ofW HT_.out HW_.out (by kernel_rfl)) (fun _ _ _ h => h) (Or.inl ⟨by rfl, ?_⟩) hHeld ?_ ?_
          rotate_left
          ·rintro w' ⟨s0, s1, s2, s3, s4, s5, s6, s7, s8, s9, s10, s11, s12, s13, s14, s15, s16, s17, s18, s19, s20, s21, s22, s23, s24, s25, s26, s27, s28, s29, s30, s31, s32, s33, s34, s35⟩
           go_simp
           with_reducible rfl
          rotate_left
          ·simp only [Act.put, List.setIfInBounds_toArray, List.set_cons_zero, List.set_cons_succ, i64_w, i32_w]
           rfl
          refine pure_ (i := 13) (N := some 51) (v := ?_) (a' := ?_) #[true, true, true, true, true, true, true, true, true, true, true, true, true, true, false, false, false, false, false, false, false, false, false, false, false, false, false, false, false, false, false, false, false] rfl rfl (any_of HT_.out (by kernel_rfl)) (fun _ _ _ h => h) (Or.inl ⟨by rfl, ?_⟩) ?_ ?_
          rotate_left
          ·intro w'
           go_simp
           with_reducible rfl
          rotate_left
          ·simp only [Act.put, List.setIfInBounds_toArray, List.set_cons_zero, List.set_cons_succ, i64_w, i32_w]
           rfl
          refine pure_ (i := 14) (N := some 52) (v := ?_) (a' := ?_) #[true, true, true, true, true, true, true, true, true, true, true, true, true, true, true, false, false, false, false, false, false, false, false, false, false, false, false, false, false, false, false, false, false] rfl rfl (any_of HT_.out (by kernel_rfl)) (fun _ _ _ h => h) (Or.inl ⟨by rfl, ?_⟩) ?_ ?_
          rotate_left
          ·intro w'
           go_simp
           with_reducible rfl
          rotate_left
          ·simp only [Act.put, List.setIfInBounds_toArray, List.set_cons_zero, List.set_cons_succ, i64_w, i32_w]
           rfl
          refine pure_ (i := 15) (N := some 53) (v := ?_) (a' := ?_) #[true, true, true, true, true, true, true, true, true, true, true, true, true, true, true, true, false, false, false, false, false, false, false, false, false, false, false, false, false, false, false, false, false] rfl rfl (any_of HT_.out (by kernel_rfl)) (fun _ _ _ h => h) (Or.inl ⟨by rfl, ?_⟩) ?_ ?_
          rotate_left
          ·intro w'
           go_simp
           with_reducible rfl
          rotate_left
          ·simp only [Act.put, List.setIfInBounds_toArray, List.set_cons_zero, List.set_cons_succ, i64_w, i32_w]
           rfl
          refine pure_ (i := 16) (N := some 54) (v := ?_) (a' := ?_) #[true, true, true, true, true, true, true, true, true, true, true, true, true, true, true, true, true, false, false, false, false, false, false, false, false, false, false, false, false, false, false, false, false] rfl rfl (any_of HT_.out (by kernel_rfl)) (fun _ _ _ h => h) (Or.inl ⟨by rfl, ?_⟩) ?_ ?_
          rotate_left
          ·intro w'
           go_simp
           with_reducible rfl
          rotate_left
          ·simp only [Act.put, List.setIfInBounds_toArray, List.set_cons_zero, List.set_cons_succ, i64_w, i32_w]
           rfl
          refine pure_ (i := 17) (N := some 55) (v := ?_) (a' := ?_) #[true, true, true, true, true, true, true, true, true, true, true, true, true, true, true, true, true, true, false, false, false, false, false, false, false, false, false, false, false, false, false, false, false] rfl rfl (any_of HT_.out (by kernel_rfl)) (fun _ _ _ h => h) (Or.inl ⟨by rfl, ?_⟩) ?_ ?_
          rotate_left
          ·intro w'
           go_simp
           with_reducible rfl
          rotate_left
          ·simp only [Act.put, List.setIfInBounds_toArray, List.set_cons_zero, List.set_cons_succ, i64_w, i32_w]
           rfl
          refine pure_ (i := 18) (N := some 56) (v := ?_) (a' := ?_) #[true, true, true, true, true, true, true, true, true, true, true, true, true, true, true, true, true, true, true, false, false, false, false, false, false, false, false, false, false, false, false, false, false] rfl rfl (any_of HT_.out (by kernel_rfl)) (fun _ _ _ h => h) (Or.inl ⟨by rfl, ?_⟩) ?_ ?_
          rotate_left
          ·intro w'
           go_simp
           with_reducible rfl
          rotate_left
          ·simp only [Act.put, List.setIfInBounds_toArray, List.set_cons_zero, List.set_cons_succ, i64_w, i32_w]
           rfl
          refine pure_ (i := 19) (N := some 57) (v := ?_) (a' := ?_) #[true, true, true, true, true, true, true, true, true, true, true, true, true, true, true, true, true, true, true, true, false, false, false, false, false, false, false, false, false, false, false, false, false] rfl rfl (any_of HT_.out (by kernel_rfl)) (fun _ _ _ h => h) (Or.inl ⟨by rfl, ?_⟩) ?_ ?_
          rotate_left
          ·intro w'
           go_simp
           with_reducible rfl
          rotate_left
          ·simp only [Act.put, List.setIfInBounds_toArray, List.set_cons_zero, List.set_cons_succ, i64_w, i32_w]
           rfl
          refine pure_ (i := 20) (N := some 58) (v := ?_) (a' := ?_) #[true, true, true, true, true, true, true, true, true, true, true, true, true, true, true, true, true, true, true, true, true, false, false, false, false, false, false, false, false, false, false, false, false] rfl rfl (any_of HT_.out (by kernel_rfl)) (fun _ _ _ h => h) (Or.inl ⟨by rfl, ?_⟩) ?_ ?_
          rotate_left
          ·intro w'
           go_simp
           with_reducible rfl
          rotate_left
          ·simp only [Act.put, List.setIfInBounds_toArray, List.set_cons_zero, List.set_cons_succ, i64_w, i32_w]
           rfl
          refine take_ (i := 21) (N := some 59) (v := ?_) (a' := ?_) #[true, true, true, true, true, true, true, true, true, true, true, true, true, true, true, true, true, true, true, true, true, true, false, false, false, false, false, false, false, false, false, false, false] rfl rfl (take_ofW HT_.out HW_.out (by kernel_rfl)) (fun _ _ _ h => h) (Or.inl ⟨by rfl, ?_⟩) hHeld ?_ ?_
          rotate_left
          ·rintro w' ⟨s0, s1, s2, s3, s4, s5, s6, s7, s8, s9, s10, s11, s12, s13, s14, s15, s16, s17, s18, s19, s20, s21, s22, s23, s24, s25, s26, s27, s28, s29, s30, s31, s32, s33, s34, s35⟩
           go_simp
           with_reducible rfl
          rotate_left
          ·simp only [Act.put, List.setIfInBounds_toArray, List.set_cons_zero, List.set_cons_succ, i64_w, i32_w]
           rfl
          refine take_ (i := 23) (N := some 61) (v := ?_) (a' := ?_) #[true, true, true, true, true, true, true, true, true, true, true, true, true, true, true, true, true, true, true, true, true, true, false, true, false, false, false, false, false, false, false, false, false] rfl rfl (take_ofW HT_.out HW_.out (by kernel_rfl)) (fun _ _ _ h => h) (Or.inl ⟨by rfl, ?_⟩) hHeld ?_ ?_
          rotate_left
          ·rintro w' ⟨s0, s1, s2, s3, s4, s5, s6, s7, s8, s9, s10, s11, s12, s13, s14, s15, s16, s17, s18, s19, s20, s21, s22, s23, s24, s25, s26, s27, s28, s29, s30, s31, s32, s33, s34, s35⟩
           go_simp
           with_reducible rfl
          rotate_left
          ·simp only [Act.put, List.setIfInBounds_toArray, List.set_cons_zero, List.set_cons_succ, i64_w, i32_w]
           rfl
          refine one_ (i := 22) (N := some 60) #[true, true, true, true, true, true, true, true, true, true, true, true, true, true, true, true, true, true, true, true, true, true, true, true, false, false, false, false, false, false, false, false, false] rfl rfl (one_of HT_.out (by kernel_rfl)) (by decide) (fun K hK => ?_)
          refine goes_ Try.func11 (by kernel_rfl) rfl #[.agg #[.int .i64 a0_0, .int .i64 a0_1, .int .i64 a0_2, .int .i64 a0_3, .int .i64 a0_4, .int .i64 a0_5, .int .i64 a0_6, .int .i64 a0_7, .int .i64 a0_8, .int .i64 a0_9, .int .i64 a0_10, .int .i64 a0_11]] (by rfl) rfl rfl (by (try simp only [List.map_toArray, List.map_cons, List.map_nil]); first | done | rfl | (simp only [List.length_drop, List.length_take]; rfl)) ?_
          with_reducible refine (inode_Right.calls k a0_0 a0_1 a0_2 a0_3 a0_4 a0_5 a0_6 a0_7 a0_8 a0_9 a0_10 a0_11 t326 _ A12.out).mono ?_
          rintro e w43 ⟨rfl, hb⟩
          refine ⟨_, rfl, ?_⟩
          have n0_ := Aside0.mk (Kd.R_below (by (with_reducible repeat (first | apply Kd.R_alloc | apply Kd.R_drewN | apply Kd.R_drew)); exact HO289.out) hb)
          have n1_ := Aside0.mk (Kd.R_below (by (with_reducible repeat (first | apply Kd.R_alloc | apply Kd.R_drewN | apply Kd.R_drew)); exact HO293.out) hb)
          have n2_ := Aside0.mk (TQ.Q_below (by (with_reducible repeat (first | apply TQ.Q_alloc | apply TQ.Q_drewN | apply TQ.Q_drew)); exact HO297.out) hb)
          have n3_ := Aside0.mk (blk_below (g := gb286) (o := .cells #[.int .i64 a0_0, .int .i64 a0_1, .int .i64 a0_2, .int .i64 a0_3, .int .i64 a0_4, .int .i64 a0_5, .int .i64 a0_6, .int .i64 a0_7, .int .i64 a0_8, .int .i64 a0_9, .int .i64 a0_10, .int .i64 a0_11] 24 (0, 0)) (by (with_reducible repeat (first | refine blk_drewN ?_ _ | refine blk_drew ?_ | refine blk_alloc ?_ _)); exact BK286.out) hb)
          have n4_ := Aside0.mk (blk_below (g := gb311) (o := .cells #[.int .i64 t298, .int .i64 t299, .int .i64 t300, .int .i64 t301, .int .i64 t302, .int .i64 t303, .int .i64 t304, .int .i64 t305, .int .i64 t306, .int .i64 t307, .int .i64 t308, .int .i64 t309] 24 (0, 0)) (by (with_reducible repeat (first | refine blk_drewN ?_ _ | refine blk_drew ?_ | refine blk_alloc ?_ _)); exact BK311.out) hb)
          have n5_ := Aside0.mk (blk_below (g := gb325) (o := .cells #[.int .i64 t312, .int .i64 t313, .int .i64 t314, .int .i64 t315, .int .i64 t316, .int .i64 t317, .int .i64 t318, .int .i64 t319, .int .i64 t320, .int .i64 t321, .int .i64 t322, .int .i64 t323] 24 (0, 0)) (by (with_reducible repeat (first | refine blk_drewN ?_ _ | refine blk_drew ?_ | refine blk_alloc ?_ _)); exact BK325.out) hb)
          have n6_ := Aside0.mk (below_step (by repeat (first | (with_reducible first | exact HB.out | apply below_alloc | apply pw_below_drewN | apply below_drew1 | refine below_set ?_ GE286.out | refine below_set ?_ GE311.out | refine below_set ?_ GE325.out) | exact HB.out)) hb)
          clear HO289
          clear HO293
          clear HO297
          clear BK286
          clear BK311
          clear BK325
          clear HB
          have HO289 := n0_
          have HO293 := n1_
          have HO297 := n2_
          have BK286 := n3_
          have BK311 := n4_
          have BK325 := n5_
          have HB := n6_
          clear n0_ n1_ n2_ n3_ n4_ n5_ n6_
          (try clear hb)
          (try clear hb2)
          (try clear hk)
          (try clear hi)
          refine hK.out _ _ ⟨(blk_cell BK311.out 0).trans rfl, (blk_cell BK311.out 1).trans rfl, (blk_cell BK311.out 2).trans rfl, (blk_cell BK311.out 3).trans rfl, (blk_cell BK311.out 4).trans rfl, (blk_cell BK311.out 5).trans rfl, (blk_cell BK311.out 6).trans rfl, (blk_cell BK311.out 7).trans rfl, (blk_cell BK311.out 8).trans rfl, (blk_cell BK311.out 9).trans rfl, (blk_cell BK311.out 10).trans rfl, (blk_cell BK311.out 11).trans rfl, (blk_cell BK325.out 0).trans rfl, (blk_cell BK325.out 1).trans rfl, (blk_cell BK325.out 2).trans rfl, (blk_cell BK325.out 3).trans rfl, (blk_cell BK325.out 4).trans rfl, (blk_cell BK325.out 5).trans rfl, (blk_cell BK325.out 6).trans rfl, (blk_cell BK325.out 7).trans rfl, (blk_cell BK325.out 8).trans rfl, (blk_cell BK325.out 9).trans rfl, (blk_cell BK325.out 10).trans rfl, (blk_cell BK325.out 11).trans rfl, (blk_cell BK286.out 0).trans rfl, (blk_cell BK286.out 1).trans rfl, (blk_cell BK286.out 2).trans rfl, (blk_cell BK286.out 3).trans rfl, (blk_cell BK286.out 4).trans rfl, (blk_cell BK286.out 5).trans rfl, (blk_cell BK286.out 6).trans rfl, (blk_cell BK286.out 7).trans rfl, (blk_cell BK286.out 8).trans rfl, (blk_cell BK286.out 9).trans rfl, (blk_cell BK286.out 10).trans rfl, (blk_cell BK286.out 11).trans rfl⟩ (fun hHeld => ?_)
          clear hK K
          refine norm_ (a' := ?_) ?_ ?_
          rotate_left
          ·show Act.put _ (some 60) _ = _
           simp only [Act.put, List.setIfInBounds_toArray, List.set_cons_zero, List.set_cons_succ, i64_w, i32_w]
           rfl
          refine one_ (i := 24) (N := some 62) #[true, true, true, true, true, true, true, true, true, true, true, true, true, true, true, true, true, true, true, true, true, true, true, true, true, false, false, false, false, false, false, false, false] rfl rfl (one_of HT_.out (by kernel_rfl)) (by decide) (fun K hK => ?_)
          refine goes_ Try.func12 (by kernel_rfl) rfl #[.agg #[.int .i64 a0_0, .int .i64 a0_1, .int .i64 a0_2, .int .i64 a0_3, .int .i64 a0_4, .int .i64 a0_5, .int .i64 a0_6, .int .i64 a0_7, .int .i64 a0_8, .int .i64 a0_9, .int .i64 a0_10, .int .i64 a0_11]] (by rfl) rfl rfl (by (try simp only [List.map_toArray, List.map_cons, List.map_nil]); first | done | rfl | (simp only [List.length_drop, List.length_take]; rfl)) ?_
          with_reducible refine (leveeref07_Right.calls k a0_0 a0_1 a0_2 a0_3 a0_4 a0_5 a0_6 a0_7 a0_8 a0_9 a0_10 a0_11 t327 _ A13.out).mono ?_
          rintro e w44 ⟨rfl, hb⟩
          refine ⟨_, rfl, ?_⟩
          have n0_ := Aside0.mk (Kd.R_below (by (with_reducible repeat (first | apply Kd.R_alloc | apply Kd.R_drewN | apply Kd.R_drew)); exact HO289.out) hb)
          have n1_ := Aside0.mk (Kd.R_below (by (with_reducible repeat (first | apply Kd.R_alloc | apply Kd.R_drewN | apply Kd.R_drew)); exact HO293.out) hb)
          have n2_ := Aside0.mk (TQ.Q_below (by (with_reducible repeat (first | apply TQ.Q_alloc | apply TQ.Q_drewN | apply TQ.Q_drew)); exact HO297.out) hb)
          have n3_ := Aside0.mk (blk_below (g := gb286) (o := .cells #[.int .i64 a0_0, .int .i64 a0_1, .int .i64 a0_2, .int .i64 a0_3, .int .i64 a0_4, .int .i64 a0_5, .int .i64 a0_6, .int .i64 a0_7, .int .i64 a0_8, .int .i64 a0_9, .int .i64 a0_10, .int .i64 a0_11] 24 (0, 0)) (by (with_reducible repeat (first | refine blk_drewN ?_ _ | refine blk_drew ?_ | refine blk_alloc ?_ _)); exact BK286.out) hb)
          have n4_ := Aside0.mk (blk_below (g := gb311) (o := .cells #[.int .i64 t298, .int .i64 t299, .int .i64 t300, .int .i64 t301, .int .i64 t302, .int .i64 t303, .int .i64 t304, .int .i64 t305, .int .i64 t306, .int .i64 t307, .int .i64 t308, .int .i64 t309] 24 (0, 0)) (by (with_reducible repeat (first | refine blk_drewN ?_ _ | refine blk_drew ?_ | refine blk_alloc ?_ _)); exact BK311.out) hb)
          have n5_ := Aside0.mk (blk_below (g := gb325) (o := .cells #[.int .i64 t312, .int .i64 t313, .int .i64 t314, .int .i64 t315, .int .i64 t316, .int .i64 t317, .int .i64 t318, .int .i64 t319, .int .i64 t320, .int .i64 t321, .int .i64 t322, .int .i64 t323] 24 (0, 0)) (by (with_reducible repeat (first | refine blk_drewN ?_ _ | refine blk_drew ?_ | refine blk_alloc ?_ _)); exact BK325.out) hb)
          have n6_ := Aside0.mk (below_step (by repeat (first | (with_reducible first | exact HB.out | apply below_alloc | apply pw_below_drewN | apply below_drew1 | refine below_set ?_ GE286.out | refine below_set ?_ GE311.out | refine below_set ?_ GE325.out) | exact HB.out)) hb)
          clear HO289
          clear HO293
          clear HO297
          clear BK286
          clear BK311
          clear BK325
          clear HB
          have HO289 := n0_
          have HO293 := n1_
          have HO297 := n2_
          have BK286 := n3_
          have BK311 := n4_
          have BK325 := n5_
          have HB := n6_
          clear n0_ n1_ n2_ n3_ n4_ n5_ n6_
          (try clear hb)
          (try clear hb2)
          (try clear hk)
          (try clear hi)
          refine hK.out _ _ ⟨(blk_cell BK311.out 0).trans rfl, (blk_cell BK311.out 1).trans rfl, (blk_cell BK311.out 2).trans rfl, (blk_cell BK311.out 3).trans rfl, (blk_cell BK311.out 4).trans rfl, (blk_cell BK311.out 5).trans rfl, (blk_cell BK311.out 6).trans rfl, (blk_cell BK311.out 7).trans rfl, (blk_cell BK311.out 8).trans rfl, (blk_cell BK311.out 9).trans rfl, (blk_cell BK311.out 10).trans rfl, (blk_cell BK311.out 11).trans rfl, (blk_cell BK325.out 0).trans rfl, (blk_cell BK325.out 1).trans rfl, (blk_cell BK325.out 2).trans rfl, (blk_cell BK325.out 3).trans rfl, (blk_cell BK325.out 4).trans rfl, (blk_cell BK325.out 5).trans rfl, (blk_cell BK325.out 6).trans rfl, (blk_cell BK325.out 7).trans rfl, (blk_cell BK325.out 8).trans rfl, (blk_cell BK325.out 9).trans rfl, (blk_cell BK325.out 10).trans rfl, (blk_cell BK325.out 11).trans rfl, (blk_cell BK286.out 0).trans rfl, (blk_cell BK286.out 1).trans rfl, (blk_cell BK286.out 2).trans rfl, (blk_cell BK286.out 3).trans rfl, (blk_cell BK286.out 4).trans rfl, (blk_cell BK286.out 5).trans rfl, (blk_cell BK286.out 6).trans rfl, (blk_cell BK286.out 7).trans rfl, (blk_cell BK286.out 8).trans rfl, (blk_cell BK286.out 9).trans rfl, (blk_cell BK286.out 10).trans rfl, (blk_cell BK286.out 11).trans rfl⟩ (fun hHeld => ?_)
          clear hK K
          refine norm_ (a' := ?_) ?_ ?_
          rotate_left
          ·show Act.put _ (some 62) _ = _
           simp only [Act.put, List.setIfInBounds_toArray, List.set_cons_zero, List.set_cons_succ, i64_w, i32_w]
           rfl
          refine pure_ (i := 25) (N := some 63) (v := ?_) (a' := ?_) #[true, true, true, true, true, true, true, true, true, true, true, true, true, true, true, true, true, true, true, true, true, true, true, true, true, true, false, false, false, false, false, false, false] rfl rfl (any_of HT_.out (by kernel_rfl)) (fun _ _ _ h => h) (Or.inl ⟨by rfl, ?_⟩) ?_ ?_
          rotate_left
          ·intro w'
           go_simp
           with_reducible rfl
          rotate_left
          ·simp only [Act.put, List.setIfInBounds_toArray, List.set_cons_zero, List.set_cons_succ, i64_w, i32_w]
           rfl
          refine pure_ (i := 26) (N := some 64) (v := ?_) (a' := ?_) #[true, true, true, true, true, true, true, true, true, true, true, true, true, true, true, true, true, true, true, true, true, true, true, true, true, true, true, false, false, false, false, false, false] rfl rfl (any_of HT_.out (by kernel_rfl)) (fun _ _ _ h => h) (Or.inl ⟨by rfl, ?_⟩) ?_ ?_
          rotate_left
          ·intro w'
           go_simp
           with_reducible rfl
          rotate_left
          ·simp only [Act.put, List.setIfInBounds_toArray, List.set_cons_zero, List.set_cons_succ, i64_w, i32_w]
           rfl
          refine pure_ (i := 27) (N := some 65) (v := ?_) (a' := ?_) #[true, true, true, true, true, true, true, true, true, true, true, true, true, true, true, true, true, true, true, true, true, true, true, true, true, true, true, true, false, false, false, false, false] rfl rfl (any_of HT_.out (by kernel_rfl)) (fun _ _ _ h => h) (Or.inl ⟨by rfl, ?_⟩) ?_ ?_
          rotate_left
          ·intro w'
           go_simp
           with_reducible rfl
          rotate_left
          ·simp only [Act.put, List.setIfInBounds_toArray, List.set_cons_zero, List.set_cons_succ, i64_w, i32_w]
           rfl
          refine pure_ (i := 28) (N := some 66) (v := ?_) (a' := ?_) #[true, true, true, true, true, true, true, true, true, true, true, true, true, true, true, true, true, true, true, true, true, true, true, true, true, true, true, true, true, false, false, false, false] rfl rfl (any_of HT_.out (by kernel_rfl)) (fun _ _ _ h => h) (Or.inl ⟨by rfl, ?_⟩) ?_ ?_
          rotate_left
          ·intro w'
           go_simp
           with_reducible rfl
          rotate_left
          ·simp only [Act.put, List.setIfInBounds_toArray, List.set_cons_zero, List.set_cons_succ, i64_w, i32_w]
           rfl
          refine pure_ (i := 29) (N := some 67) (v := ?_) (a' := ?_) #[true, true, true, true, true, true, true, true, true, true, true, true, true, true, true, true, true, true, true, true, true, true, true, true, true, true, true, true, true, true, false, false, false] rfl rfl (any_of HT_.out (by kernel_rfl)) (fun _ _ _ h => h) (Or.inl ⟨by rfl, ?_⟩) ?_ ?_
          rotate_left
          ·intro w'
           go_simp
           with_reducible rfl
          rotate_left
          ·simp only [Act.put, List.setIfInBounds_toArray, List.set_cons_zero, List.set_cons_succ, i64_w, i32_w]
           rfl
          refine one_ (i := 30) (N := some 68) #[true, true, true, true, true, true, true, true, true, true, true, true, true, true, true, true, true, true, true, true, true, true, true, true, true, true, true, true, true, true, true, false, false] rfl rfl (one_of HT_.out (by kernel_rfl)) (by decide) (fun K hK => ?_)
          refine goes_ Try.func13 (by kernel_rfl) rfl #[.slice Ao28 t295.length co28, .slice A1 l1.length c1] (by rfl) rfl rfl (by (try simp only [List.map_toArray, List.map_cons, List.map_nil]); first | done | rfl | (simp only [List.length_drop, List.length_take]; rfl)) ?_
          with_reducible refine (leveeref01_Kept.calls _ _ t295 _ _ l1 true _ ?side1 ?side2 ?side3 ?side4 ?sideT A15.out).mono ?_
          (case sideT => exact ⟨_, _, by (with_reducible repeat (first | apply TQ.Q_alloc | apply TQ.Q_drewN | apply TQ.Q_drew)); exact HO297.out⟩)
          (case side1 => repeat (first | exact (TQ.Q_reads' HO297.out).2.2 | (with_reducible refine Kd.C_alloc ?_ _) | (with_reducible refine Kd.C_drewN ?_ _) | (with_reducible refine Kd.C_drew ?_)))
          (case side2 => exact (TQ.Q_reads' HO297.out).2.1)
          (case side3 => repeat (first | exact (Kd.C_below HR1.out HB.out) | (with_reducible refine Kd.C_alloc ?_ _) | (with_reducible refine Kd.C_drewN ?_ _) | (with_reducible refine Kd.C_drew ?_)))
          (case side4 => exact HC1.out)
          rintro e w45 ⟨rfl, hb⟩
          refine ⟨_, rfl, ?_⟩
          have n0_ := Aside0.mk (Kd.R_below (by (with_reducible repeat (first | apply Kd.R_alloc | apply Kd.R_drewN | apply Kd.R_drew)); exact HO289.out) hb)
          have n1_ := Aside0.mk (Kd.R_below (by (with_reducible repeat (first | apply Kd.R_alloc | apply Kd.R_drewN | apply Kd.R_drew)); exact HO293.out) hb)
          have n2_ := Aside0.mk (TQ.Q_below (by (with_reducible repeat (first | apply TQ.Q_alloc | apply TQ.Q_drewN | apply TQ.Q_drew)); exact HO297.out) hb)
          have n3_ := Aside0.mk (blk_below (g := gb286) (o := .cells #[.int .i64 a0_0, .int .i64 a0_1, .int .i64 a0_2, .int .i64 a0_3, .int .i64 a0_4, .int .i64 a0_5, .int .i64 a0_6, .int .i64 a0_7, .int .i64 a0_8, .int .i64 a0_9, .int .i64 a0_10, .int .i64 a0_11] 24 (0, 0)) (by (with_reducible repeat (first | refine blk_drewN ?_ _ | refine blk_drew ?_ | refine blk_alloc ?_ _)); exact BK286.out) hb)
          have n4_ := Aside0.mk (blk_below (g := gb311) (o := .cells #[.int .i64 t298, .int .i64 t299, .int .i64 t300, .int .i64 t301, .int .i64 t302, .int .i64 t303, .int .i64 t304, .int .i64 t305, .int .i64 t306, .int .i64 t307, .int .i64 t308, .int .i64 t309] 24 (0, 0)) (by (with_reducible repeat (first | refine blk_drewN ?_ _ | refine blk_drew ?_ | refine blk_alloc ?_ _)); exact BK311.out) hb)
          have n5_ := Aside0.mk (blk_below (g := gb325) (o := .cells #[.int .i64 t312, .int .i64 t313, .int .i64 t314, .int .i64 t315, .int .i64 t316, .int .i64 t317, .int .i64 t318, .int .i64 t319, .int .i64 t320, .int .i64 t321, .int .i64 t322, .int .i64 t323] 24 (0, 0)) (by (with_reducible repeat (first | refine blk_drewN ?_ _ | refine blk_drew ?_ | refine blk_alloc ?_ _)); exact BK325.out) hb)
          have n6_ := Aside0.mk (below_step (by repeat (first | (with_reducible first | exact HB.out | apply below_alloc | apply pw_below_drewN | apply below_drew1 | refine below_set ?_ GE286.out | refine below_set ?_ GE311.out | refine below_set ?_ GE325.out) | exact HB.out)) hb)
          clear HO289
          clear HO293
          clear HO297
          clear BK286
          clear BK311
          clear BK325
          clear HB
          have HO289 := n0_
          have HO293 := n1_
          have HO297 := n2_
          have BK286 := n3_
          have BK311 := n4_
          have BK325 := n5_
          have HB := n6_
          clear n0_ n1_ n2_ n3_ n4_ n5_ n6_
          (try clear hb)
          (try clear hb2)
          (try clear hk)
          (try clear hi)
          refine hK.out _ _ ⟨(blk_cell BK311.out 0).trans rfl, (blk_cell BK311.out 1).trans rfl, (blk_cell BK311.out 2).trans rfl, (blk_cell BK311.out 3).trans rfl, (blk_cell BK311.out 4).trans rfl, (blk_cell BK311.out 5).trans rfl, (blk_cell BK311.out 6).trans rfl, (blk_cell BK311.out 7).trans rfl, (blk_cell BK311.out 8).trans rfl, (blk_cell BK311.out 9).trans rfl, (blk_cell BK311.out 10).trans rfl, (blk_cell BK311.out 11).trans rfl, (blk_cell BK325.out 0).trans rfl, (blk_cell BK325.out 1).trans rfl, (blk_cell BK325.out 2).trans rfl, (blk_cell BK325.out 3).trans rfl, (blk_cell BK325.out 4).trans rfl, (blk_cell BK325.out 5).trans rfl, (blk_cell BK325.out 6).trans rfl, (blk_cell BK325.out 7).trans rfl, (blk_cell BK325.out 8).trans rfl, (blk_cell BK325.out 9).trans rfl, (blk_cell BK325.out 10).trans rfl, (blk_cell BK325.out 11).trans rfl, (blk_cell BK286.out 0).trans rfl, (blk_cell BK286.out 1).trans rfl, (blk_cell BK286.out 2).trans rfl, (blk_cell BK286.out 3).trans rfl, (blk_cell BK286.out 4).trans rfl, (blk_cell BK286.out 5).trans rfl, (blk_cell BK286.out 6).trans rfl, (blk_cell BK286.out 7).trans rfl, (blk_cell BK286.out 8).trans rfl, (blk_cell BK286.out 9).trans rfl, (blk_cell BK286.out 10).trans rfl, (blk_cell BK286.out 11).trans rfl⟩ (fun hHeld => ?_)
          clear hK K
          refine norm_ (a' := ?_) ?_ ?_
          rotate_left
          ·show Act.put _ (some 68) _ = _
           simp only [Act.put, List.setIfInBounds_toArray, List.set_cons_zero, List.set_cons_succ, i64_w, i32_w]
           rfl
          refine pure_ (i := 31) (N := some 69) (v := ?_) (a' := ?_) #[true, true, true, true, true, true, true, true, true, true, true, true, true, true, true, true, true, true, true, true, true, true, true, true, true, true, true, true, true, true, true, true, false] rfl rfl (any_of HT_.out (by kernel_rfl)) (fun _ _ _ h => h) (Or.inl ⟨by rfl, ?_⟩) ?_ ?_
          rotate_left
          ·intro w'
           go_simp
           with_reducible rfl
          rotate_left
          ·simp only [Act.put, List.setIfInBounds_toArray, List.set_cons_zero, List.set_cons_succ, i64_w, i32_w]
           rfl
          refine pure_ (i := 32) (N := some 70) (v := ?_) (a' := ?_) #[true, true, true, true, true, true, true, true, true, true, true, true, true, true, true, true, true, true, true, true, true, true, true, true, true, true, true, true, true, true, true, true, true] rfl rfl (any_of HT_.out (by kernel_rfl)) (fun _ _ _ h => h) (Or.inl ⟨by rfl, ?_⟩) ?_ ?_
          rotate_left
          ·intro w'
           go_simp
           with_reducible rfl
          rotate_left
          ·simp only [Act.put, List.setIfInBounds_toArray, List.set_cons_zero, List.set_cons_succ, i64_w, i32_w]
           rfl
          refine done_ (done_of HT_.out (by kernel_rfl)) ?_
          obtain ⟨Ao46, co46, eo46⟩ := Kd.R_slice HO289.out
          subst eo46
          try go_wp2_with (first | ((with_reducible refine gate_callee (f := 9) rfl ?_); refine goesL_ (some 76) rfl rfl Try.func9 (by kernel_rfl) rfl #[.slice Ao46 t287.length co46] rfl (by (try simp only [List.map_toArray, List.map_cons, List.map_nil]); first | done | rfl | (simp only [List.length_drop, List.length_take]; rfl)) ?_; (with_reducible refine (inode_Get.calls k _ _ t287 t329 t330 t331 t332 t333 t334 t335 t336 t337 t338 t339 t340 t341 _ ?side1 ?side2 A18.out).mono ?_); (case side1 => repeat (first | exact (Kd.R_reads' HO289.out).2.2 | (with_reducible refine Kd.C_alloc ?_ _) | (with_reducible refine Kd.C_drewN ?_ _) | (with_reducible refine Kd.C_drew ?_))); (case side2 => exact (Kd.R_reads' HO289.out).2.1); rintro e w47 ⟨rfl, hb⟩; refine ⟨_, rfl, ?_⟩; have n0_ := Aside0.mk (Kd.R_below (by (with_reducible repeat (first | apply Kd.R_alloc | apply Kd.R_drewN | apply Kd.R_drew)); exact HO289.out) hb); have n1_ := Aside0.mk (Kd.R_below (by (with_reducible repeat (first | apply Kd.R_alloc | apply Kd.R_drewN | apply Kd.R_drew)); exact HO293.out) hb); have n2_ := Aside0.mk (TQ.Q_below (by (with_reducible repeat (first | apply TQ.Q_alloc | apply TQ.Q_drewN | apply TQ.Q_drew)); exact HO297.out) hb); have n3_ := Aside0.mk (blk_below (g := gb286) (o := .cells #[.int .i64 a0_0, .int .i64 a0_1, .int .i64 a0_2, .int .i64 a0_3, .int .i64 a0_4, .int .i64 a0_5, .int .i64 a0_6, .int .i64 a0_7, .int .i64 a0_8, .int .i64 a0_9, .int .i64 a0_10, .int .i64 a0_11] 24 (0, 0)) (by (with_reducible repeat (first | refine blk_drewN ?_ _ | refine blk_drew ?_ | refine blk_alloc ?_ _)); exact BK286.out) hb); have n4_ := Aside0.mk (blk_below (g := gb311) (o := .cells #[.int .i64 t298, .int .i64 t299, .int .i64 t300, .int .i64 t301, .int .i64 t302, .int .i64 t303, .int .i64 t304, .int .i64 t305, .int .i64 t306, .int .i64 t307, .int .i64 t308, .int .i64 t309] 24 (0, 0)) (by (with_reducible repeat (first | refine blk_drewN ?_ _ | refine blk_drew ?_ | refine blk_alloc ?_ _)); exact BK311.out) hb); have n5_ := Aside0.mk (blk_below (g := gb325) (o := .cells #[.int .i64 t312, .int .i64 t313, .int .i64 t314, .int .i64 t315, .int .i64 t316, .int .i64 t317, .int .i64 t318, .int .i64 t319, .int .i64 t320, .int .i64 t321, .int .i64 t322, .int .i64 t323] 24 (0, 0)) (by (with_reducible repeat (first | refine blk_drewN ?_ _ | refine blk_drew ?_ | refine blk_alloc ?_ _)); exact BK325.out) hb); have n6_ := Aside0.mk (below_step (by repeat (first | (with_reducible first | exact HB.out | apply below_alloc | apply pw_below_drewN | apply below_drew1 | refine below_set ?_ GE286.out | refine below_set ?_ GE311.out | refine below_set ?_ GE325.out) | exact HB.out)) hb); clear HO289; clear HO293; clear HO297; clear BK286; clear BK311; clear BK325; clear HB; have HO289 := n0_; have HO293 := n1_; have HO297 := n2_; have BK286 := n3_; have BK311 := n4_; have BK325 := n5_; have HB := n6_; clear n0_ n1_ n2_ n3_ n4_ n5_ n6_; (try clear hb); (try clear hb2); (try clear hk); (try clear hi)) | ((with_reducible refine gate_dst (N := 14) rfl ?_); refine box_event ?hg (N := 14) ?hd (cs := #[.int .i64 0, .int .i64 0, .int .i64 0, .int .i64 0, .int .i64 0, .int .i64 0, .int .i64 0, .int .i64 0, .int .i64 0, .int .i64 0, .int .i64 0, .int .i64 0]) (t := 24) ?hr ?_; (case hd => rfl); (case hg => rfl); (case hr => first | (go_simp; done) | (go_simp; rfl)); intro gb342 hg w48 hbox hb; have n0_ := Aside0.mk (Kd.R_below (by (with_reducible repeat (first | apply Kd.R_alloc | apply Kd.R_drewN | apply Kd.R_drew)); exact HO289.out) hb); have n1_ := Aside0.mk (Kd.R_below (by (with_reducible repeat (first | apply Kd.R_alloc | apply Kd.R_drewN | apply Kd.R_drew)); exact HO293.out) hb); have n2_ := Aside0.mk (TQ.Q_below (by (with_reducible repeat (first | apply TQ.Q_alloc | apply TQ.Q_drewN | apply TQ.Q_drew)); exact HO297.out) hb); have n3_ := Aside0.mk (blk_below (g := gb286) (o := .cells #[.int .i64 a0_0, .int .i64 a0_1, .int .i64 a0_2, .int .i64 a0_3, .int .i64 a0_4, .int .i64 a0_5, .int .i64 a0_6, .int .i64 a0_7, .int .i64 a0_8, .int .i64 a0_9, .int .i64 a0_10, .int .i64 a0_11] 24 (0, 0)) (by (with_reducible repeat (first | refine blk_drewN ?_ _ | refine blk_drew ?_ | refine blk_alloc ?_ _)); exact BK286.out) hb); have n4_ := Aside0.mk (blk_below (g := gb311) (o := .cells #[.int .i64 t298, .int .i64 t299, .int .i64 t300, .int .i64 t301, .int .i64 t302, .int .i64 t303, .int .i64 t304, .int .i64 t305, .int .i64 t306, .int .i64 t307, .int .i64 t308, .int .i64 t309] 24 (0, 0)) (by (with_reducible repeat (first | refine blk_drewN ?_ _ | refine blk_drew ?_ | refine blk_alloc ?_ _)); exact BK311.out) hb); have n5_ := Aside0.mk (blk_below (g := gb325) (o := .cells #[.int .i64 t312, .int .i64 t313, .int .i64 t314, .int .i64 t315, .int .i64 t316, .int .i64 t317, .int .i64 t318, .int .i64 t319, .int .i64 t320, .int .i64 t321, .int .i64 t322, .int .i64 t323] 24 (0, 0)) (by (with_reducible repeat (first | refine blk_drewN ?_ _ | refine blk_drew ?_ | refine blk_alloc ?_ _)); exact BK325.out) hb); have n6_ := Aside0.mk (below_step (by repeat (first | (with_reducible first | exact HB.out | apply below_alloc | apply pw_below_drewN | apply below_drew1 | refine below_set ?_ GE286.out | refine below_set ?_ GE311.out | refine below_set ?_ GE325.out) | exact HB.out)) hb); have n7_ := Aside0.mk (hbox); have n8_ := Aside0.mk ((by rw [hg]; exact (below_size (by repeat (first | (with_reducible first | exact HB.out | apply below_alloc | apply pw_below_drewN | apply below_drew1 | refine below_set ?_ GE286.out | refine below_set ?_ GE311.out | refine below_set ?_ GE325.out) | exact HB.out))) : w.heap.size ≤ gb342)); have n9_ := Aside0.mk ((by rw [hg]; exact (below_size (by repeat (first | (with_reducible first | exact HB.out | apply below_alloc | apply pw_below_drewN | apply below_drew1 | refine below_set ?_ GE286.out | refine below_set ?_ GE311.out | refine below_set ?_ GE325.out) | exact HB.out))) : w.heap.size ≤ gb342)); have n10_ := Aside0.mk ((by rw [hg]; exact Nat.ne_of_lt (blk_lt (g := gb286) (o := .cells #[.int .i64 a0_0, .int .i64 a0_1, .int .i64 a0_2, .int .i64 a0_3, .int .i64 a0_4, .int .i64 a0_5, .int .i64 a0_6, .int .i64 a0_7, .int .i64 a0_8, .int .i64 a0_9, .int .i64 a0_10, .int .i64 a0_11] 24 (0, 0)) (by (with_reducible repeat (first | refine blk_drewN ?_ _ | refine blk_drew ?_ | refine blk_alloc ?_ _)); exact BK286.out)) : gb286 ≠ gb342)); have n11_ := Aside0.mk ((by rw [hg]; exact Nat.ne_of_gt (blk_lt (g := gb286) (o := .cells #[.int .i64 a0_0, .int .i64 a0_1, .int .i64 a0_2, .int .i64 a0_3, .int .i64 a0_4, .int .i64 a0_5, .int .i64 a0_6, .int .i64 a0_7, .int .i64 a0_8, .int .i64 a0_9, .int .i64 a0_10, .int .i64 a0_11] 24 (0, 0)) (by (with_reducible repeat (first | refine blk_drewN ?_ _ | refine blk_drew ?_ | refine blk_alloc ?_ _)); exact BK286.out)) : gb342 ≠ gb286)); have n12_ := Aside0.mk ((by rw [hg]; exact Nat.ne_of_lt (blk_lt (g := gb311) (o := .cells #[.int .i64 t298, .int .i64 t299, .int .i64 t300, .int .i64 t301, .int .i64 t302, .int .i64 t303, .int .i64 t304, .int .i64 t305, .int .i64 t306, .int .i64 t307, .int .i64 t308, .int .i64 t309] 24 (0, 0)) (by (with_reducible repeat (first | refine blk_drewN ?_ _ | refine blk_drew ?_ | refine blk_alloc ?_ _)); exact BK311.out)) : gb311 ≠ gb342)); have n13_ := Aside0.mk ((by rw [hg]; exact Nat.ne_of_gt (blk_lt (g := gb311) (o := .cells #[.int .i64 t298, .int .i64 t299, .int .i64 t300, .int .i64 t301, .int .i64 t302, .int .i64 t303, .int .i64 t304, .int .i64 t305, .int .i64 t306, .int .i64 t307, .int .i64 t308, .int .i64 t309] 24 (0, 0)) (by (with_reducible repeat (first | refine blk_drewN ?_ _ | refine blk_drew ?_ | refine blk_alloc ?_ _)); exact BK311.out)) : gb342 ≠ gb311)); have n14_ := Aside0.mk ((by rw [hg]; exact Nat.ne_of_lt (blk_lt (g := gb325) (o := .cells #[.int .i64 t312, .int .i64 t313, .int .i64 t314, .int .i64 t315, .int .i64 t316, .int .i64 t317, .int .i64 t318, .int .i64 t319, .int .i64 t320, .int .i64 t321, .int .i64 t322, .int .i64 t323] 24 (0, 0)) (by (with_reducible repeat (first | refine blk_drewN ?_ _ | refine blk_drew ?_ | refine blk_alloc ?_ _)); exact BK325.out)) : gb325 ≠ gb342)); have n15_ := Aside0.mk ((by rw [hg]; exact Nat.ne_of_gt (blk_lt (g := gb325) (o := .cells #[.int .i64 t312, .int .i64 t313, .int .i64 t314, .int .i64 t315, .int .i64 t316, .int .i64 t317, .int .i64 t318, .int .i64 t319, .int .i64 t320, .int .i64 t321, .int .i64 t322, .int .i64 t323] 24 (0, 0)) (by (with_reducible repeat (first | refine blk_drewN ?_ _ | refine blk_drew ?_ | refine blk_alloc ?_ _)); exact BK325.out)) : gb342 ≠ gb325)); clear HO289; clear HO293; clear HO297; clear BK286; clear BK311; clear BK325; clear HB; have HO289 := n0_; have HO293 := n1_; have HO297 := n2_; have BK286 := n3_; have BK311 := n4_; have BK325 := n5_; have HB := n6_; have BK342 := n7_; have GW342 := n8_; have GE342 := n9_; have NB286_342 := n10_; have NB342_286 := n11_; have NB311_342 := n12_; have NB342_311 := n13_; have NB325_342 := n14_; have NB342_325 := n15_; clear n0_ n1_ n2_ n3_ n4_ n5_ n6_ n7_ n8_ n9_ n10_ n11_ n12_ n13_ n14_ n15_; clear hb hbox hg; have hnb49 := NB342_286.out; have hnc49 := NB286_342.out; have hnb50 := NB342_311.out; have hnc50 := NB311_342.out; have hnb51 := NB342_325.out; have hnc51 := NB325_342.out; have q_ := cells12 BK342.out; have hcz52_0 := q_.c0; have hcz52_1 := q_.c1; have hcz52_2 := q_.c2; have hcz52_3 := q_.c3; have hcz52_4 := q_.c4; have hcz52_5 := q_.c5; have hcz52_6 := q_.c6; have hcz52_7 := q_.c7; have hcz52_8 := q_.c8; have hcz52_9 := q_.c9; have hcz52_10 := q_.c10; have hcz52_11 := q_.c11; have hfz52_0 := q_.f0; have hfz52_1 := q_.f1; have hfz52_2 := q_.f2; have hfz52_3 := q_.f3; have hfz52_4 := q_.f4; have hfz52_5 := q_.f5; have hfz52_6 := q_.f6; have hfz52_7 := q_.f7; have hfz52_8 := q_.f8; have hfz52_9 := q_.f9; have hfz52_10 := q_.f10; have hfz52_11 := q_.f11; clear q_; have q_ := cells12 BK286.out; have hcz53_0 := q_.c0; have hcz53_1 := q_.c1; have hcz53_2 := q_.c2; have hcz53_3 := q_.c3; have hcz53_4 := q_.c4; have hcz53_5 := q_.c5; have hcz53_6 := q_.c6; have hcz53_7 := q_.c7; have hcz53_8 := q_.c8; have hcz53_9 := q_.c9; have hcz53_10 := q_.c10; have hcz53_11 := q_.c11; have hfz53_0 := q_.f0; have hfz53_1 := q_.f1; have hfz53_2 := q_.f2; have hfz53_3 := q_.f3; have hfz53_4 := q_.f4; have hfz53_5 := q_.f5; have hfz53_6 := q_.f6; have hfz53_7 := q_.f7; have hfz53_8 := q_.f8; have hfz53_9 := q_.f9; have hfz53_10 := q_.f10; have hfz53_11 := q_.f11; clear q_) | (go_at_call 14; (with_reducible refine (leveelaw07_known.calls k  t343 _ A21.out).mono ?_); rintro e w54 ⟨rfl, hb⟩; have n0_ := Aside0.mk (Kd.R_below (by (with_reducible repeat (first | apply Kd.R_alloc | apply Kd.R_drewN | apply Kd.R_drew)); exact (Kd.R_mono (Kd.R_far12 (Kd.R_types HO289.out BK342.out (by decide)) (fun _ hk => hk.2)) (fun _ h_ => h_.1))) hb); have n1_ := Aside0.mk (Kd.R_below (by (with_reducible repeat (first | apply Kd.R_alloc | apply Kd.R_drewN | apply Kd.R_drew)); exact (Kd.R_mono (Kd.R_far12 (Kd.R_types HO293.out BK342.out (by decide)) (fun _ hk => hk.2)) (fun _ h_ => h_.1))) hb); have n2_ := Aside0.mk (TQ.Q_below (by (with_reducible repeat (first | apply TQ.Q_alloc | apply TQ.Q_drewN | apply TQ.Q_drew)); exact (TQ.Q_mono (TQ.Q_far12 (TQ.Q_types HO297.out BK342.out (by decide)) (fun _ hk => hk.2)) (fun _ h_ => h_.1))) hb); have n3_ := Aside0.mk (blk_below (g := gb286) (o := .cells #[.int .i64 a0_0, .int .i64 a0_1, .int .i64 a0_2, .int .i64 a0_3, .int .i64 a0_4, .int .i64 a0_5, .int .i64 a0_6, .int .i64 a0_7, .int .i64 a0_8, .int .i64 a0_9, .int .i64 a0_10, .int .i64 a0_11] 24 (0, 0)) (by (with_reducible repeat (first | refine blk_drewN ?_ _ | refine blk_drew ?_ | refine blk_alloc ?_ _)); refine blk_far12 ?_ NB286_342.out; (with_reducible repeat (first | refine blk_drewN ?_ _ | refine blk_drew ?_ | refine blk_alloc ?_ _)); exact BK286.out) hb); have n4_ := Aside0.mk (blk_below (g := gb311) (o := .cells #[.int .i64 t298, .int .i64 t299, .int .i64 t300, .int .i64 t301, .int .i64 t302, .int .i64 t303, .int .i64 t304, .int .i64 t305, .int .i64 t306, .int .i64 t307, .int .i64 t308, .int .i64 t309] 24 (0, 0)) (by (with_reducible repeat (first | refine blk_drewN ?_ _ | refine blk_drew ?_ | refine blk_alloc ?_ _)); refine blk_far12 ?_ NB311_342.out; (with_reducible repeat (first | refine blk_drewN ?_ _ | refine blk_drew ?_ | refine blk_alloc ?_ _)); exact BK311.out) hb); have n5_ := Aside0.mk (blk_below (g := gb325) (o := .cells #[.int .i64 t312, .int .i64 t313, .int .i64 t314, .int .i64 t315, .int .i64 t316, .int .i64 t317, .int .i64 t318, .int .i64 t319, .int .i64 t320, .int .i64 t321, .int .i64 t322, .int .i64 t323] 24 (0, 0)) (by (with_reducible repeat (first | refine blk_drewN ?_ _ | refine blk_drew ?_ | refine blk_alloc ?_ _)); refine blk_far12 ?_ NB325_342.out; (with_reducible repeat (first | refine blk_drewN ?_ _ | refine blk_drew ?_ | refine blk_alloc ?_ _)); exact BK325.out) hb); have n6_ := Aside0.mk (blk_below (g := gb342) (o := .cells #[.int .i64 t329, .int .i64 t330, .int .i64 t331, .int .i64 t332, .int .i64 t333, .int .i64 t334, .int .i64 t335, .int .i64 t336, .int .i64 t337, .int .i64 t338, .int .i64 t339, .int .i64 t340] 24 (0, 0)) (by (with_reducible repeat (first | refine blk_drewN ?_ _ | refine blk_drew ?_ | refine blk_alloc ?_ _)); refine blk_put12 (.int .i64 0) (.int .i64 0) (.int .i64 0) (.int .i64 0) (.int .i64 0) (.int .i64 0) (.int .i64 0) (.int .i64 0) (.int .i64 0) (.int .i64 0) (.int .i64 0) (.int .i64 0) ?_; (with_reducible repeat (first | refine blk_drewN ?_ _ | refine blk_drew ?_ | refine blk_alloc ?_ _)); exact BK342.out) hb); have n7_ := Aside0.mk (below_step (by repeat (first | (with_reducible first | exact HB.out | apply below_alloc | apply pw_below_drewN | apply below_drew1 | refine below_set ?_ GE286.out | refine below_set ?_ GE311.out | refine below_set ?_ GE325.out | refine below_set ?_ GE342.out) | exact HB.out)) hb); clear HO289; clear HO293; clear HO297; clear BK286; clear BK311; clear BK325; clear BK342; clear HB; have HO289 := n0_; have HO293 := n1_; have HO297 := n2_; have BK286 := n3_; have BK311 := n4_; have BK325 := n5_; have BK342 := n6_; have HB := n7_; clear n0_ n1_ n2_ n3_ n4_ n5_ n6_ n7_; (try clear hb); (try clear hb2); (try clear hk); (try clear hi)))
          go_ret
          exact ⟨by first | rfl | (simp [errW_none, errW_some] <;> rfl) | (simp [*, errW_none, errW_some] <;> rfl), by repeat (first | (with_reducible first | exact HB.out | apply below_alloc | apply pw_below_drewN | apply below_drew1 | refine below_set ?_ GE286.out | refine below_set ?_ GE311.out | refine below_set ?_ GE325.out | refine below_set ?_ GE342.out) | exact HB.out)⟩
         ·rw [if_neg c20] at H
          exact absurd H (by simp)
        ·rw [if_neg c19] at H
         exact absurd H (by simp)
       ·rw [if_neg c17] at H
        have c17b0 : (t294 == 0) = false := beq_eq_false_iff_ne.mpr c17
        have c17b1 : (t294 != 0) = true := bne_iff_ne.mpr c17
        replace H := Option.bind_eq_some_iff.mp H
        obtain ⟨t344, A550, H⟩ := H
        replace H : (some t344) = some r := H
        have A55 := Aside0.mk A550
        clear A550
        obtain rfl := Option.some.inj H
        go_enter Try.func3, Try.ntmps3
        try go_wp2_with (first | ((with_reducible refine gate_dst (N := 2) rfl ?_); refine box_event ?hg (N := 2) ?hd (cs := #[.int .i64 a0_0, .int .i64 a0_1, .int .i64 a0_2, .int .i64 a0_3, .int .i64 a0_4, .int .i64 a0_5, .int .i64 a0_6, .int .i64 a0_7, .int .i64 a0_8, .int .i64 a0_9, .int .i64 a0_10, .int .i64 a0_11]) (t := 24) ?hr ?_; (case hd => rfl); (case hg => rfl); (case hr => first | (go_simp; done) | (go_simp; rfl)); intro gb286 hg w56 hbox hb; have n0_ := Aside0.mk (below_step (by repeat (first | (with_reducible first | exact HB.out | apply below_alloc | apply pw_below_drewN | apply below_drew1) | exact HB.out)) hb); have n1_ := Aside0.mk (hbox); have n2_ := Aside0.mk ((by rw [hg]; exact (below_size (by repeat (first | (with_reducible first | exact HB.out | apply below_alloc | apply pw_below_drewN | apply below_drew1) | exact HB.out))) : w.heap.size ≤ gb286)); have n3_ := Aside0.mk ((by rw [hg]; exact (below_size (by repeat (first | (with_reducible first | exact HB.out | apply below_alloc | apply pw_below_drewN | apply below_drew1) | exact HB.out))) : w.heap.size ≤ gb286)); clear HB; have HB := n0_; have BK286 := n1_; have GW286 := n2_; have GE286 := n3_; clear n0_ n1_ n2_ n3_; clear hb hbox hg; have q_ := cells12 BK286.out; have hcz57_0 := q_.c0; have hcz57_1 := q_.c1; have hcz57_2 := q_.c2; have hcz57_3 := q_.c3; have hcz57_4 := q_.c4; have hcz57_5 := q_.c5; have hcz57_6 := q_.c6; have hcz57_7 := q_.c7; have hcz57_8 := q_.c8; have hcz57_9 := q_.c9; have hcz57_10 := q_.c10; have hcz57_11 := q_.c11; have hfz57_0 := q_.f0; have hfz57_1 := q_.f1; have hfz57_2 := q_.f2; have hfz57_3 := q_.f3; have hfz57_4 := q_.f4; have hfz57_5 := q_.f5; have hfz57_6 := q_.f6; have hfz57_7 := q_.f7; have hfz57_8 := q_.f8; have hfz57_9 := q_.f9; have hfz57_10 := q_.f10; have hfz57_11 := q_.f11; clear q_) | ((with_reducible refine gate_callee (f := 6) rfl ?_); refine goesL_ (some 18) rfl rfl Try.func6 (by kernel_rfl) rfl #[.agg #[.int .i64 a0_0, .int .i64 a0_1, .int .i64 a0_2, .int .i64 a0_3, .int .i64 a0_4, .int .i64 a0_5, .int .i64 a0_6, .int .i64 a0_7, .int .i64 a0_8, .int .i64 a0_9, .int .i64 a0_10, .int .i64 a0_11]] rfl (by (try simp only [List.map_toArray, List.map_cons, List.map_nil]); first | done | rfl | (simp only [List.length_drop, List.length_take]; rfl)) ?_; (with_reducible refine (inode_Put.calls k a0_0 a0_1 a0_2 a0_3 a0_4 a0_5 a0_6 a0_7 a0_8 a0_9 a0_10 a0_11 t287 t290 _ A3.out).mono ?_); rintro e w58 ⟨v288, rfl, ho0, hb⟩; refine ⟨_, rfl, ?_⟩; have n0_ := Aside0.mk (Kd.R_lower ho0 (below_size (by repeat (first | (with_reducible first | exact HB.out | apply below_alloc | apply pw_below_drewN | apply below_drew1 | refine below_set ?_ GE286.out) | exact HB.out)))); have n1_ := Aside0.mk (blk_below (g := gb286) (o := .cells #[.int .i64 a0_0, .int .i64 a0_1, .int .i64 a0_2, .int .i64 a0_3, .int .i64 a0_4, .int .i64 a0_5, .int .i64 a0_6, .int .i64 a0_7, .int .i64 a0_8, .int .i64 a0_9, .int .i64 a0_10, .int .i64 a0_11] 24 (0, 0)) (by (with_reducible repeat (first | refine blk_drewN ?_ _ | refine blk_drew ?_ | refine blk_alloc ?_ _)); exact BK286.out) hb); have n2_ := Aside0.mk (below_step (by repeat (first | (with_reducible first | exact HB.out | apply below_alloc | apply pw_below_drewN | apply below_drew1 | refine below_set ?_ GE286.out) | exact HB.out)) hb); clear BK286; clear HB; have HO289 := n0_; have BK286 := n1_; have HB := n2_; clear n0_ n1_ n2_; (try clear hb); (try clear hb2); (try clear hk); (try clear hi); (try clear ho0); have q_ := cells12 BK286.out; have hcz59_0 := q_.c0; have hcz59_1 := q_.c1; have hcz59_2 := q_.c2; have hcz59_3 := q_.c3; have hcz59_4 := q_.c4; have hcz59_5 := q_.c5; have hcz59_6 := q_.c6; have hcz59_7 := q_.c7; have hcz59_8 := q_.c8; have hcz59_9 := q_.c9; have hcz59_10 := q_.c10; have hcz59_11 := q_.c11; have hfz59_0 := q_.f0; have hfz59_1 := q_.f1; have hfz59_2 := q_.f2; have hfz59_3 := q_.f3; have hfz59_4 := q_.f4; have hfz59_5 := q_.f5; have hfz59_6 := q_.f6; have hfz59_7 := q_.f7; have hfz59_8 := q_.f8; have hfz59_9 := q_.f9; have hfz59_10 := q_.f10; have hfz59_11 := q_.f11; clear q_) | ((with_reducible refine gate_callee (f := 7) rfl ?_); refine goesL_ (some 23) rfl rfl Try.func7 (by kernel_rfl) rfl #[.agg #[.int .i64 a0_0, .int .i64 a0_1, .int .i64 a0_2, .int .i64 a0_3, .int .i64 a0_4, .int .i64 a0_5, .int .i64 a0_6, .int .i64 a0_7, .int .i64 a0_8, .int .i64 a0_9, .int .i64 a0_10, .int .i64 a0_11]] rfl (by (try simp only [List.map_toArray, List.map_cons, List.map_nil]); first | done | rfl | (simp only [List.length_drop, List.length_take]; rfl)) ?_; (with_reducible refine (leveeref07_Put.calls k a0_0 a0_1 a0_2 a0_3 a0_4 a0_5 a0_6 a0_7 a0_8 a0_9 a0_10 a0_11 t291 t294 _ A4.out).mono ?_); rintro e w60 ⟨v292, rfl, ho0, hb⟩; refine ⟨_, rfl, ?_⟩; have n0_ := Aside0.mk (Kd.R_elder' (by (with_reducible repeat (first | apply Kd.R_alloc | apply Kd.R_drewN | apply Kd.R_drew)); exact HO289.out) (Kd.R_base ho0) hb); have n1_ := Aside0.mk (Kd.R_lower (Kd.R_new' ho0 (Kd.R_lt (by (with_reducible repeat (first | apply Kd.R_alloc | apply Kd.R_drewN | apply Kd.R_drew)); exact HO289.out))) (below_size (by repeat (first | (with_reducible first | exact HB.out | apply below_alloc | apply pw_below_drewN | apply below_drew1 | refine below_set ?_ GE286.out) | exact HB.out)))); have n2_ := Aside0.mk (blk_below (g := gb286) (o := .cells #[.int .i64 a0_0, .int .i64 a0_1, .int .i64 a0_2, .int .i64 a0_3, .int .i64 a0_4, .int .i64 a0_5, .int .i64 a0_6, .int .i64 a0_7, .int .i64 a0_8, .int .i64 a0_9, .int .i64 a0_10, .int .i64 a0_11] 24 (0, 0)) (by (with_reducible repeat (first | refine blk_drewN ?_ _ | refine blk_drew ?_ | refine blk_alloc ?_ _)); exact BK286.out) hb); have n3_ := Aside0.mk (below_step (by repeat (first | (with_reducible first | exact HB.out | apply below_alloc | apply pw_below_drewN | apply below_drew1 | refine below_set ?_ GE286.out) | exact HB.out)) hb); clear HO289; clear BK286; clear HB; have HO289 := n0_; have HO293 := n1_; have BK286 := n2_; have HB := n3_; clear n0_ n1_ n2_ n3_; (try clear hb); (try clear hb2); (try clear hk); (try clear hi); (try clear ho0)) | ((with_reducible refine gate_callee (f := 8) rfl ?_); refine goesL_ (some 27) rfl rfl Try.func8 (by kernel_rfl) rfl #[.slice A1 l1.length c1] rfl (by (try simp only [List.map_toArray, List.map_cons, List.map_nil]); first | done | rfl | (simp only [List.length_drop, List.length_take]; rfl)) ?_; (with_reducible refine (leveeref01_Lent.calls _ _ l1 t295 _ ?side1 ?side2 A5.out).mono ?_); (case side1 => repeat (first | exact (Kd.C_below HR1.out HB.out) | (with_reducible refine Kd.C_alloc ?_ _) | (with_reducible refine Kd.C_drewN ?_ _) | (with_reducible refine Kd.C_drew ?_))); (case side2 => exact HC1.out); rintro e w61 ⟨v296, rfl, ho0, hb⟩; refine ⟨_, rfl, ?_⟩; have n0_ := Aside0.mk (Kd.R_elder' (by (with_reducible repeat (first | apply Kd.R_alloc | apply Kd.R_drewN | apply Kd.R_drew)); exact HO289.out) (TQ.Q_base ho0) hb); have n1_ := Aside0.mk (Kd.R_elder' (by (with_reducible repeat (first | apply Kd.R_alloc | apply Kd.R_drewN | apply Kd.R_drew)); exact HO293.out) (TQ.Q_base ho0) hb); have n2_ := Aside0.mk (TQ.Q_lower (TQ.Q_new' (TQ.Q_new' ho0 (Kd.R_lt (by (with_reducible repeat (first | apply Kd.R_alloc | apply Kd.R_drewN | apply Kd.R_drew)); exact HO289.out))) (Kd.R_lt (by (with_reducible repeat (first | apply Kd.R_alloc | apply Kd.R_drewN | apply Kd.R_drew)); exact HO293.out))) (below_size (by repeat (first | (with_reducible first | exact HB.out | apply below_alloc | apply pw_below_drewN | apply below_drew1 | refine below_set ?_ GE286.out) | exact HB.out)))); have n3_ := Aside0.mk (blk_below (g := gb286) (o := .cells #[.int .i64 a0_0, .int .i64 a0_1, .int .i64 a0_2, .int .i64 a0_3, .int .i64 a0_4, .int .i64 a0_5, .int .i64 a0_6, .int .i64 a0_7, .int .i64 a0_8, .int .i64 a0_9, .int .i64 a0_10, .int .i64 a0_11] 24 (0, 0)) (by (with_reducible repeat (first | refine blk_drewN ?_ _ | refine blk_drew ?_ | refine blk_alloc ?_ _)); exact BK286.out) hb); have n4_ := Aside0.mk (below_step (by repeat (first | (with_reducible first | exact HB.out | apply below_alloc | apply pw_below_drewN | apply below_drew1 | refine below_set ?_ GE286.out) | exact HB.out)) hb); clear HO289; clear HO293; clear BK286; clear HB; have HO289 := n0_; have HO293 := n1_; have HO297 := n2_; have BK286 := n3_; have HB := n4_; clear n0_ n1_ n2_ n3_ n4_; (try clear hb); (try clear hb2); (try clear hk); (try clear hi); (try clear ho0); obtain ⟨Ao62, co62, eo62, _⟩ := TQ.Q_slice HO297.out; subst eo62) | ((with_reducible refine gate_callee (f := 9) rfl ?_); refine goesL_ (some 30) rfl rfl Try.func9 (by kernel_rfl) rfl #[.slice Ao62 t295.length co62] rfl (by (try simp only [List.map_toArray, List.map_cons, List.map_nil]); first | done | rfl | (simp only [List.length_drop, List.length_take]; rfl)) ?_; (with_reducible refine (inode_Get.calls k _ _ t295 t298 t299 t300 t301 t302 t303 t304 t305 t306 t307 t308 t309 t310 _ ?side1 ?side2 A6.out).mono ?_); (case side1 => repeat (first | exact (TQ.Q_reads' HO297.out).2.2 | (with_reducible refine Kd.C_alloc ?_ _) | (with_reducible refine Kd.C_drewN ?_ _) | (with_reducible refine Kd.C_drew ?_))); (case side2 => exact (TQ.Q_reads' HO297.out).2.1); rintro e w63 ⟨rfl, hb⟩; refine ⟨_, rfl, ?_⟩; have n0_ := Aside0.mk (Kd.R_below (by (with_reducible repeat (first | apply Kd.R_alloc | apply Kd.R_drewN | apply Kd.R_drew)); exact HO289.out) hb); have n1_ := Aside0.mk (Kd.R_below (by (with_reducible repeat (first | apply Kd.R_alloc | apply Kd.R_drewN | apply Kd.R_drew)); exact HO293.out) hb); have n2_ := Aside0.mk (TQ.Q_below (by (with_reducible repeat (first | apply TQ.Q_alloc | apply TQ.Q_drewN | apply TQ.Q_drew)); exact HO297.out) hb); have n3_ := Aside0.mk (blk_below (g := gb286) (o := .cells #[.int .i64 a0_0, .int .i64 a0_1, .int .i64 a0_2, .int .i64 a0_3, .int .i64 a0_4, .int .i64 a0_5, .int .i64 a0_6, .int .i64 a0_7, .int .i64 a0_8, .int .i64 a0_9, .int .i64 a0_10, .int .i64 a0_11] 24 (0, 0)) (by (with_reducible repeat (first | refine blk_drewN ?_ _ | refine blk_drew ?_ | refine blk_alloc ?_ _)); exact BK286.out) hb); have n4_ := Aside0.mk (below_step (by repeat (first | (with_reducible first | exact HB.out | apply below_alloc | apply pw_below_drewN | apply below_drew1 | refine below_set ?_ GE286.out) | exact HB.out)) hb); clear HO289; clear HO293; clear HO297; clear BK286; clear HB; have HO289 := n0_; have HO293 := n1_; have HO297 := n2_; have BK286 := n3_; have HB := n4_; clear n0_ n1_ n2_ n3_ n4_; (try clear hb); (try clear hb2); (try clear hk); (try clear hi)) | ((with_reducible refine gate_dst (N := 10) rfl ?_); refine box_event ?hg (N := 10) ?hd (cs := #[.int .i64 0, .int .i64 0, .int .i64 0, .int .i64 0, .int .i64 0, .int .i64 0, .int .i64 0, .int .i64 0, .int .i64 0, .int .i64 0, .int .i64 0, .int .i64 0]) (t := 24) ?hr ?_; (case hd => rfl); (case hg => rfl); (case hr => first | (go_simp; done) | (go_simp; rfl)); intro gb311 hg w64 hbox hb; have n0_ := Aside0.mk (Kd.R_below (by (with_reducible repeat (first | apply Kd.R_alloc | apply Kd.R_drewN | apply Kd.R_drew)); exact HO289.out) hb); have n1_ := Aside0.mk (Kd.R_below (by (with_reducible repeat (first | apply Kd.R_alloc | apply Kd.R_drewN | apply Kd.R_drew)); exact HO293.out) hb); have n2_ := Aside0.mk (TQ.Q_below (by (with_reducible repeat (first | apply TQ.Q_alloc | apply TQ.Q_drewN | apply TQ.Q_drew)); exact HO297.out) hb); have n3_ := Aside0.mk (blk_below (g := gb286) (o := .cells #[.int .i64 a0_0, .int .i64 a0_1, .int .i64 a0_2, .int .i64 a0_3, .int .i64 a0_4, .int .i64 a0_5, .int .i64 a0_6, .int .i64 a0_7, .int .i64 a0_8, .int .i64 a0_9, .int .i64 a0_10, .int .i64 a0_11] 24 (0, 0)) (by (with_reducible repeat (first | refine blk_drewN ?_ _ | refine blk_drew ?_ | refine blk_alloc ?_ _)); exact BK286.out) hb); have n4_ := Aside0.mk (below_step (by repeat (first | (with_reducible first | exact HB.out | apply below_alloc | apply pw_below_drewN | apply below_drew1 | refine below_set ?_ GE286.out) | exact HB.out)) hb); have n5_ := Aside0.mk (hbox); have n6_ := Aside0.mk ((by rw [hg]; exact (below_size (by repeat (first | (with_reducible first | exact HB.out | apply below_alloc | apply pw_below_drewN | apply below_drew1 | refine below_set ?_ GE286.out) | exact HB.out))) : w.heap.size ≤ gb311)); have n7_ := Aside0.mk ((by rw [hg]; exact (below_size (by repeat (first | (with_reducible first | exact HB.out | apply below_alloc | apply pw_below_drewN | apply below_drew1 | refine below_set ?_ GE286.out) | exact HB.out))) : w.heap.size ≤ gb311)); have n8_ := Aside0.mk ((by rw [hg]; exact Nat.ne_of_lt (blk_lt (g := gb286) (o := .cells #[.int .i64 a0_0, .int .i64 a0_1, .int .i64 a0_2, .int .i64 a0_3, .int .i64 a0_4, .int .i64 a0_5, .int .i64 a0_6, .int .i64 a0_7, .int .i64 a0_8, .int .i64 a0_9, .int .i64 a0_10, .int .i64 a0_11] 24 (0, 0)) (by (with_reducible repeat (first | refine blk_drewN ?_ _ | refine blk_drew ?_ | refine blk_alloc ?_ _)); exact BK286.out)) : gb286 ≠ gb311)); have n9_ := Aside0.mk ((by rw [hg]; exact Nat.ne_of_gt (blk_lt (g := gb286) (o := .cells #[.int .i64 a0_0, .int .i64 a0_1, .int .i64 a0_2, .int .i64 a0_3, .int .i64 a0_4, .int .i64 a0_5, .int .i64 a0_6, .int .i64 a0_7, .int .i64 a0_8, .int .i64 a0_9, .int .i64 a0_10, .int .i64 a0_11] 24 (0, 0)) (by (with_reducible repeat (first | refine blk_drewN ?_ _ | refine blk_drew ?_ | refine blk_alloc ?_ _)); exact BK286.out)) : gb311 ≠ gb286)); clear HO289; clear HO293; clear HO297; clear BK286; clear HB; have HO289 := n0_; have HO293 := n1_; have HO297 := n2_; have BK286 := n3_; have HB := n4_; have BK311 := n5_; have GW311 := n6_; have GE311 := n7_; have NB286_311 := n8_; have NB311_286 := n9_; clear n0_ n1_ n2_ n3_ n4_ n5_ n6_ n7_ n8_ n9_; clear hb hbox hg; have hnb65 := NB311_286.out; have hnc65 := NB286_311.out; have q_ := cells12 BK311.out; have hcz66_0 := q_.c0; have hcz66_1 := q_.c1; have hcz66_2 := q_.c2; have hcz66_3 := q_.c3; have hcz66_4 := q_.c4; have hcz66_5 := q_.c5; have hcz66_6 := q_.c6; have hcz66_7 := q_.c7; have hcz66_8 := q_.c8; have hcz66_9 := q_.c9; have hcz66_10 := q_.c10; have hcz66_11 := q_.c11; have hfz66_0 := q_.f0; have hfz66_1 := q_.f1; have hfz66_2 := q_.f2; have hfz66_3 := q_.f3; have hfz66_4 := q_.f4; have hfz66_5 := q_.f5; have hfz66_6 := q_.f6; have hfz66_7 := q_.f7; have hfz66_8 := q_.f8; have hfz66_9 := q_.f9; have hfz66_10 := q_.f10; have hfz66_11 := q_.f11; clear q_) | ((with_reducible refine gate_callee (f := 10) rfl ?_); refine goesL_ (some 35) rfl rfl Try.func10 (by kernel_rfl) rfl #[.slice A1 l1.length c1] rfl (by (try simp only [List.map_toArray, List.map_cons, List.map_nil]); first | done | rfl | (simp only [List.length_drop, List.length_take]; rfl)) ?_; (with_reducible refine (leveeref07_Get.calls k _ _ l1 t312 t313 t314 t315 t316 t317 t318 t319 t320 t321 t322 t323 t324 _ ?side1 ?side2 A7.out).mono ?_); (case side1 => exact Kd.C_below HR1.out (by repeat (first | (with_reducible first | exact HB.out | apply below_alloc | apply pw_below_drewN | apply below_drew1 | refine below_set ?_ GE286.out | refine below_set ?_ GE311.out) | exact HB.out))); (case side2 => exact HC1.out); rintro e w67 ⟨rfl, hb⟩; refine ⟨_, rfl, ?_⟩; have n0_ := Aside0.mk (Kd.R_below (by (with_reducible repeat (first | apply Kd.R_alloc | apply Kd.R_drewN | apply Kd.R_drew)); exact (Kd.R_mono (Kd.R_far12 (Kd.R_types HO289.out BK311.out (by decide)) (fun _ hk => hk.2)) (fun _ h_ => h_.1))) hb); have n1_ := Aside0.mk (Kd.R_below (by (with_reducible repeat (first | apply Kd.R_alloc | apply Kd.R_drewN | apply Kd.R_drew)); exact (Kd.R_mono (Kd.R_far12 (Kd.R_types HO293.out BK311.out (by decide)) (fun _ hk => hk.2)) (fun _ h_ => h_.1))) hb); have n2_ := Aside0.mk (TQ.Q_below (by (with_reducible repeat (first | apply TQ.Q_alloc | apply TQ.Q_drewN | apply TQ.Q_drew)); exact (TQ.Q_mono (TQ.Q_far12 (TQ.Q_types HO297.out BK311.out (by decide)) (fun _ hk => hk.2)) (fun _ h_ => h_.1))) hb); have n3_ := Aside0.mk (blk_below (g := gb286) (o := .cells #[.int .i64 a0_0, .int .i64 a0_1, .int .i64 a0_2, .int .i64 a0_3, .int .i64 a0_4, .int .i64 a0_5, .int .i64 a0_6, .int .i64 a0_7, .int .i64 a0_8, .int .i64 a0_9, .int .i64 a0_10, .int .i64 a0_11] 24 (0, 0)) (by (with_reducible repeat (first | refine blk_drewN ?_ _ | refine blk_drew ?_ | refine blk_alloc ?_ _)); refine blk_far12 ?_ NB286_311.out; (with_reducible repeat (first | refine blk_drewN ?_ _ | refine blk_drew ?_ | refine blk_alloc ?_ _)); exact BK286.out) hb); have n4_ := Aside0.mk (blk_below (g := gb311) (o := .cells #[.int .i64 t298, .int .i64 t299, .int .i64 t300, .int .i64 t301, .int .i64 t302, .int .i64 t303, .int .i64 t304, .int .i64 t305, .int .i64 t306, .int .i64 t307, .int .i64 t308, .int .i64 t309] 24 (0, 0)) (by (with_reducible repeat (first | refine blk_drewN ?_ _ | refine blk_drew ?_ | refine blk_alloc ?_ _)); refine blk_put12 (.int .i64 0) (.int .i64 0) (.int .i64 0) (.int .i64 0) (.int .i64 0) (.int .i64 0) (.int .i64 0) (.int .i64 0) (.int .i64 0) (.int .i64 0) (.int .i64 0) (.int .i64 0) ?_; (with_reducible repeat (first | refine blk_drewN ?_ _ | refine blk_drew ?_ | refine blk_alloc ?_ _)); exact BK311.out) hb); have n5_ := Aside0.mk (below_step (by repeat (first | (with_reducible first | exact HB.out | apply below_alloc | apply pw_below_drewN | apply below_drew1 | refine below_set ?_ GE286.out | refine below_set ?_ GE311.out) | exact HB.out)) hb); clear HO289; clear HO293; clear HO297; clear BK286; clear BK311; clear HB; have HO289 := n0_; have HO293 := n1_; have HO297 := n2_; have BK286 := n3_; have BK311 := n4_; have HB := n5_; clear n0_ n1_ n2_ n3_ n4_ n5_; (try clear hb); (try clear hb2); (try clear hk); (try clear hi)) | ((with_reducible refine gate_dst (N := 12) rfl ?_); refine box_event ?hg (N := 12) ?hd (cs := #[.int .i64 0, .int .i64 0, .int .i64 0, .int .i64 0, .int .i64 0, .int .i64 0, .int .i64 0, .int .i64 0, .int .i64 0, .int .i64 0, .int .i64 0, .int .i64 0]) (t := 24) ?hr ?_; (case hd => rfl); (case hg => rfl); (case hr => first | (go_simp; done) | (go_simp; rfl)); intro gb325 hg w68 hbox hb; have n0_ := Aside0.mk (Kd.R_below (by (with_reducible repeat (first | apply Kd.R_alloc | apply Kd.R_drewN | apply Kd.R_drew)); exact HO289.out) hb); have n1_ := Aside0.mk (Kd.R_below (by (with_reducible repeat (first | apply Kd.R_alloc | apply Kd.R_drewN | apply Kd.R_drew)); exact HO293.out) hb); have n2_ := Aside0.mk (TQ.Q_below (by (with_reducible repeat (first | apply TQ.Q_alloc | apply TQ.Q_drewN | apply TQ.Q_drew)); exact HO297.out) hb); have n3_ := Aside0.mk (blk_below (g := gb286) (o := .cells #[.int .i64 a0_0, .int .i64 a0_1, .int .i64 a0_2, .int .i64 a0_3, .int .i64 a0_4, .int .i64 a0_5, .int .i64 a0_6, .int .i64 a0_7, .int .i64 a0_8, .int .i64 a0_9, .int .i64 a0_10, .int .i64 a0_11] 24 (0, 0)) (by (with_reducible repeat (first | refine blk_drewN ?_ _ | refine blk_drew ?_ | refine blk_alloc ?_ _)); exact BK286.out) hb); have n4_ := Aside0.mk (blk_below (g := gb311) (o := .cells #[.int .i64 t298, .int .i64 t299, .int .i64 t300, .int .i64 t301, .int .i64 t302, .int .i64 t303, .int .i64 t304, .int .i64 t305, .int .i64 t306, .int .i64 t307, .int .i64 t308, .int .i64 t309] 24 (0, 0)) (by (with_reducible repeat (first | refine blk_drewN ?_ _ | refine blk_drew ?_ | refine blk_alloc ?_ _)); exact BK311.out) hb); have n5_ := Aside0.mk (below_step (by repeat (first | (with_reducible first | exact HB.out | apply below_alloc | apply pw_below_drewN | apply below_drew1 | refine below_set ?_ GE286.out | refine below_set ?_ GE311.out) | exact HB.out)) hb); have n6_ := Aside0.mk (hbox); have n7_ := Aside0.mk ((by rw [hg]; exact (below_size (by repeat (first | (with_reducible first | exact HB.out | apply below_alloc | apply pw_below_drewN | apply below_drew1 | refine below_set ?_ GE286.out | refine below_set ?_ GE311.out) | exact HB.out))) : w.heap.size ≤ gb325)); have n8_ := Aside0.mk ((by rw [hg]; exact (below_size (by repeat (first | (with_reducible first | exact HB.out | apply below_alloc | apply pw_below_drewN | apply below_drew1 | refine below_set ?_ GE286.out | refine below_set ?_ GE311.out) | exact HB.out))) : w.heap.size ≤ gb325)); have n9_ := Aside0.mk ((by rw [hg]; exact Nat.ne_of_lt (blk_lt (g := gb286) (o := .cells #[.int .i64 a0_0, .int .i64 a0_1, .int .i64 a0_2, .int .i64 a0_3, .int .i64 a0_4, .int .i64 a0_5, .int .i64 a0_6, .int .i64 a0_7, .int .i64 a0_8, .int .i64 a0_9, .int .i64 a0_10, .int .i64 a0_11] 24 (0, 0)) (by (with_reducible repeat (first | refine blk_drewN ?_ _ | refine blk_drew ?_ | refine blk_alloc ?_ _)); exact BK286.out)) : gb286 ≠ gb325)); have n10_ := Aside0.mk ((by rw [hg]; exact Nat.ne_of_gt (blk_lt (g := gb286) (o := .cells #[.int .i64 a0_0, .int .i64 a0_1, .int .i64 a0_2, .int .i64 a0_3, .int .i64 a0_4, .int .i64 a0_5, .int .i64 a0_6, .int .i64 a0_7, .int .i64 a0_8, .int .i64 a0_9, .int .i64 a0_10, .int .i64 a0_11] 24 (0, 0)) (by (with_reducible repeat (first | refine blk_drewN ?_ _ | refine blk_drew ?_ | refine blk_alloc ?_ _)); exact BK286.out)) : gb325 ≠ gb286)); have n11_ := Aside0.mk ((by rw [hg]; exact Nat.ne_of_lt (blk_lt (g := gb311) (o := .cells #[.int .i64 t298, .int .i64 t299, .int .i64 t300, .int .i64 t301, .int .i64 t302, .int .i64 t303, .int .i64 t304, .int .i64 t305, .int .i64 t306, .int .i64 t307, .int .i64 t308, .int .i64 t309] 24 (0, 0)) (by (with_reducible repeat (first | refine blk_drewN ?_ _ | refine blk_drew ?_ | refine blk_alloc ?_ _)); exact BK311.out)) : gb311 ≠ gb325)); have n12_ := Aside0.mk ((by rw [hg]; exact Nat.ne_of_gt (blk_lt (g := gb311) (o := .cells #[.int .i64 t298, .int .i64 t299, .int .i64 t300, .int .i64 t301, .int .i64 t302, .int .i64 t303, .int .i64 t304, .int .i64 t305, .int .i64 t306, .int .i64 t307, .int .i64 t308, .int .i64 t309] 24 (0, 0)) (by (with_reducible repeat (first | refine blk_drewN ?_ _ | refine blk_drew ?_ | refine blk_alloc ?_ _)); exact BK311.out)) : gb325 ≠ gb311)); clear HO289; clear HO293; clear HO297; clear BK286; clear BK311; clear HB; have HO289 := n0_; have HO293 := n1_; have HO297 := n2_; have BK286 := n3_; have BK311 := n4_; have HB := n5_; have BK325 := n6_; have GW325 := n7_; have GE325 := n8_; have NB286_325 := n9_; have NB325_286 := n10_; have NB311_325 := n11_; have NB325_311 := n12_; clear n0_ n1_ n2_ n3_ n4_ n5_ n6_ n7_ n8_ n9_ n10_ n11_ n12_; clear hb hbox hg; have hnb69 := NB325_286.out; have hnc69 := NB286_325.out; have hnb70 := NB325_311.out; have hnc70 := NB311_325.out; have q_ := cells12 BK325.out; have hcz71_0 := q_.c0; have hcz71_1 := q_.c1; have hcz71_2 := q_.c2; have hcz71_3 := q_.c3; have hcz71_4 := q_.c4; have hcz71_5 := q_.c5; have hcz71_6 := q_.c6; have hcz71_7 := q_.c7; have hcz71_8 := q_.c8; have hcz71_9 := q_.c9; have hcz71_10 := q_.c10; have hcz71_11 := q_.c11; have hfz71_0 := q_.f0; have hfz71_1 := q_.f1; have hfz71_2 := q_.f2; have hfz71_3 := q_.f3; have hfz71_4 := q_.f4; have hfz71_5 := q_.f5; have hfz71_6 := q_.f6; have hfz71_7 := q_.f7; have hfz71_8 := q_.f8; have hfz71_9 := q_.f9; have hfz71_10 := q_.f10; have hfz71_11 := q_.f11; clear q_))
        have n0_ : Aside0 (Kd.R (Kd.int .u8) 5 ((((((((((((w68.setCell ⟨gb325, 0, none⟩ (.int .i64 t312)).setCell ⟨gb325, 1, none⟩ (.int .i64 t313)).setCell ⟨gb325, 2, none⟩ (.int .i64 t314)).setCell ⟨gb325, 3, none⟩ (.int .i64 t315)).setCell ⟨gb325, 4, none⟩ (.int .i64 t316)).setCell ⟨gb325, 5, none⟩ (.int .i64 t317)).setCell ⟨gb325, 6, none⟩ (.int .i64 t318)).setCell ⟨gb325, 7, none⟩ (.int .i64 t319)).setCell ⟨gb325, 8, none⟩ (.int .i64 t320)).setCell ⟨gb325, 9, none⟩ (.int .i64 t321)).setCell ⟨gb325, 10, none⟩ (.int .i64 t322)).setCell ⟨gb325, 11, none⟩ (.int .i64 t323)) w.heap.size (fun k_ => some k_ ≠ (v292 : Value).ownBlock ∧ some k_ ≠ (.slice Ao62 t295.length co62 : Value).ownBlock) v288 t287) := ⟨by (with_reducible repeat (first | apply Kd.R_alloc | apply Kd.R_drewN | apply Kd.R_drew)); exact Kd.R_mono (Kd.R_far12 (Kd.R_types HO289.out BK325.out (by decide)) (fun _ hk => hk.2)) (fun _ hk => ⟨hk.1.1.2, hk.1.2⟩)⟩
        have n1_ : Aside0 (Kd.R (Kd.int .u8) 5 ((((((((((((w68.setCell ⟨gb325, 0, none⟩ (.int .i64 t312)).setCell ⟨gb325, 1, none⟩ (.int .i64 t313)).setCell ⟨gb325, 2, none⟩ (.int .i64 t314)).setCell ⟨gb325, 3, none⟩ (.int .i64 t315)).setCell ⟨gb325, 4, none⟩ (.int .i64 t316)).setCell ⟨gb325, 5, none⟩ (.int .i64 t317)).setCell ⟨gb325, 6, none⟩ (.int .i64 t318)).setCell ⟨gb325, 7, none⟩ (.int .i64 t319)).setCell ⟨gb325, 8, none⟩ (.int .i64 t320)).setCell ⟨gb325, 9, none⟩ (.int .i64 t321)).setCell ⟨gb325, 10, none⟩ (.int .i64 t322)).setCell ⟨gb325, 11, none⟩ (.int .i64 t323)) w.heap.size (fun k_ => some k_ ≠ (v288 : Value).ownBlock ∧ some k_ ≠ (.slice Ao62 t295.length co62 : Value).ownBlock) v292 t291) := ⟨by (with_reducible repeat (first | apply Kd.R_alloc | apply Kd.R_drewN | apply Kd.R_drew)); exact Kd.R_mono (Kd.R_far12 (Kd.R_types HO293.out BK325.out (by decide)) (fun _ hk => hk.2)) (fun _ hk => ⟨hk.1.1.2, hk.1.2⟩)⟩
        have n2_ : Aside0 (TQ.Q (Kd.int .u8) 5 ((((((((((((w68.setCell ⟨gb325, 0, none⟩ (.int .i64 t312)).setCell ⟨gb325, 1, none⟩ (.int .i64 t313)).setCell ⟨gb325, 2, none⟩ (.int .i64 t314)).setCell ⟨gb325, 3, none⟩ (.int .i64 t315)).setCell ⟨gb325, 4, none⟩ (.int .i64 t316)).setCell ⟨gb325, 5, none⟩ (.int .i64 t317)).setCell ⟨gb325, 6, none⟩ (.int .i64 t318)).setCell ⟨gb325, 7, none⟩ (.int .i64 t319)).setCell ⟨gb325, 8, none⟩ (.int .i64 t320)).setCell ⟨gb325, 9, none⟩ (.int .i64 t321)).setCell ⟨gb325, 10, none⟩ (.int .i64 t322)).setCell ⟨gb325, 11, none⟩ (.int .i64 t323)) w.heap.size (fun k_ => some k_ ≠ (v288 : Value).ownBlock ∧ some k_ ≠ (v292 : Value).ownBlock) (.slice Ao62 t295.length co62) t295) := ⟨by (with_reducible repeat (first | apply TQ.Q_alloc | apply TQ.Q_drewN | apply TQ.Q_drew)); exact TQ.Q_mono (TQ.Q_far12 (TQ.Q_types HO297.out BK325.out (by decide)) (fun _ hk => hk.2)) (fun _ hk => ⟨hk.1.1.2, hk.1.2⟩)⟩
        have n3_ : Aside0 (((((((((((((w68.setCell ⟨gb325, 0, none⟩ (.int .i64 t312)).setCell ⟨gb325, 1, none⟩ (.int .i64 t313)).setCell ⟨gb325, 2, none⟩ (.int .i64 t314)).setCell ⟨gb325, 3, none⟩ (.int .i64 t315)).setCell ⟨gb325, 4, none⟩ (.int .i64 t316)).setCell ⟨gb325, 5, none⟩ (.int .i64 t317)).setCell ⟨gb325, 6, none⟩ (.int .i64 t318)).setCell ⟨gb325, 7, none⟩ (.int .i64 t319)).setCell ⟨gb325, 8, none⟩ (.int .i64 t320)).setCell ⟨gb325, 9, none⟩ (.int .i64 t321)).setCell ⟨gb325, 10, none⟩ (.int .i64 t322)).setCell ⟨gb325, 11, none⟩ (.int .i64 t323)).heap[gb286]? = some (.cells #[.int .i64 a0_0, .int .i64 a0_1, .int .i64 a0_2, .int .i64 a0_3, .int .i64 a0_4, .int .i64 a0_5, .int .i64 a0_6, .int .i64 a0_7, .int .i64 a0_8, .int .i64 a0_9, .int .i64 a0_10, .int .i64 a0_11] 24 (0, 0))) := ⟨by (with_reducible repeat (first | refine blk_drewN ?_ _ | refine blk_drew ?_ | refine blk_alloc ?_ _)); refine blk_far12 ?_ NB286_325.out; (with_reducible repeat (first | refine blk_drewN ?_ _ | refine blk_drew ?_ | refine blk_alloc ?_ _)); exact BK286.out⟩
        have n4_ : Aside0 (((((((((((((w68.setCell ⟨gb325, 0, none⟩ (.int .i64 t312)).setCell ⟨gb325, 1, none⟩ (.int .i64 t313)).setCell ⟨gb325, 2, none⟩ (.int .i64 t314)).setCell ⟨gb325, 3, none⟩ (.int .i64 t315)).setCell ⟨gb325, 4, none⟩ (.int .i64 t316)).setCell ⟨gb325, 5, none⟩ (.int .i64 t317)).setCell ⟨gb325, 6, none⟩ (.int .i64 t318)).setCell ⟨gb325, 7, none⟩ (.int .i64 t319)).setCell ⟨gb325, 8, none⟩ (.int .i64 t320)).setCell ⟨gb325, 9, none⟩ (.int .i64 t321)).setCell ⟨gb325, 10, none⟩ (.int .i64 t322)).setCell ⟨gb325, 11, none⟩ (.int .i64 t323)).heap[gb311]? = some (.cells #[.int .i64 t298, .int .i64 t299, .int .i64 t300, .int .i64 t301, .int .i64 t302, .int .i64 t303, .int .i64 t304, .int .i64 t305, .int .i64 t306, .int .i64 t307, .int .i64 t308, .int .i64 t309] 24 (0, 0))) := ⟨by (with_reducible repeat (first | refine blk_drewN ?_ _ | refine blk_drew ?_ | refine blk_alloc ?_ _)); refine blk_far12 ?_ NB311_325.out; (with_reducible repeat (first | refine blk_drewN ?_ _ | refine blk_drew ?_ | refine blk_alloc ?_ _)); exact BK311.out⟩
        have n5_ : Aside0 (((((((((((((w68.setCell ⟨gb325, 0, none⟩ (.int .i64 t312)).setCell ⟨gb325, 1, none⟩ (.int .i64 t313)).setCell ⟨gb325, 2, none⟩ (.int .i64 t314)).setCell ⟨gb325, 3, none⟩ (.int .i64 t315)).setCell ⟨gb325, 4, none⟩ (.int .i64 t316)).setCell ⟨gb325, 5, none⟩ (.int .i64 t317)).setCell ⟨gb325, 6, none⟩ (.int .i64 t318)).setCell ⟨gb325, 7, none⟩ (.int .i64 t319)).setCell ⟨gb325, 8, none⟩ (.int .i64 t320)).setCell ⟨gb325, 9, none⟩ (.int .i64 t321)).setCell ⟨gb325, 10, none⟩ (.int .i64 t322)).setCell ⟨gb325, 11, none⟩ (.int .i64 t323)).heap[gb325]? = some (.cells #[.int .i64 t312, .int .i64 t313, .int .i64 t314, .int .i64 t315, .int .i64 t316, .int .i64 t317, .int .i64 t318, .int .i64 t319, .int .i64 t320, .int .i64 t321, .int .i64 t322, .int .i64 t323] 24 (0, 0))) := ⟨by (with_reducible repeat (first | refine blk_drewN ?_ _ | refine blk_drew ?_ | refine blk_alloc ?_ _)); refine blk_put12 (.int .i64 0) (.int .i64 0) (.int .i64 0) (.int .i64 0) (.int .i64 0) (.int .i64 0) (.int .i64 0) (.int .i64 0) (.int .i64 0) (.int .i64 0) (.int .i64 0) (.int .i64 0) ?_; (with_reducible repeat (first | refine blk_drewN ?_ _ | refine blk_drew ?_ | refine blk_alloc ?_ _)); exact BK325.out⟩
        have n6_ : Aside0 (Below w.heap.size w ((((((((((((w68.setCell ⟨gb325, 0, none⟩ (.int .i64 t312)).setCell ⟨gb325, 1, none⟩ (.int .i64 t313)).setCell ⟨gb325, 2, none⟩ (.int .i64 t314)).setCell ⟨gb325, 3, none⟩ (.int .i64 t315)).setCell ⟨gb325, 4, none⟩ (.int .i64 t316)).setCell ⟨gb325, 5, none⟩ (.int .i64 t317)).setCell ⟨gb325, 6, none⟩ (.int .i64 t318)).setCell ⟨gb325, 7, none⟩ (.int .i64 t319)).setCell ⟨gb325, 8, none⟩ (.int .i64 t320)).setCell ⟨gb325, 9, none⟩ (.int .i64 t321)).setCell ⟨gb325, 10, none⟩ (.int .i64 t322)).setCell ⟨gb325, 11, none⟩ (.int .i64 t323))) := ⟨by repeat (first | (with_reducible first | exact HB.out | apply below_alloc | apply pw_below_drewN | apply below_drew1 | refine below_set ?_ GE286.out | refine below_set ?_ GE311.out | refine below_set ?_ GE325.out) | exact HB.out)⟩
        (try clear HO289)
        (try clear HO293)
        (try clear HO297)
        (try clear BK286)
        (try clear BK311)
        (try clear BK325)
        (try clear HB)
        generalize ((((((((((((w68.setCell ⟨gb325, 0, none⟩ (.int .i64 t312)).setCell ⟨gb325, 1, none⟩ (.int .i64 t313)).setCell ⟨gb325, 2, none⟩ (.int .i64 t314)).setCell ⟨gb325, 3, none⟩ (.int .i64 t315)).setCell ⟨gb325, 4, none⟩ (.int .i64 t316)).setCell ⟨gb325, 5, none⟩ (.int .i64 t317)).setCell ⟨gb325, 6, none⟩ (.int .i64 t318)).setCell ⟨gb325, 7, none⟩ (.int .i64 t319)).setCell ⟨gb325, 8, none⟩ (.int .i64 t320)).setCell ⟨gb325, 9, none⟩ (.int .i64 t321)).setCell ⟨gb325, 10, none⟩ (.int .i64 t322)).setCell ⟨gb325, 11, none⟩ (.int .i64 t323)) = w72 at n0_ n1_ n2_ n3_ n4_ n5_ n6_ ⊢
        have HO289 := n0_
        have HO293 := n1_
        have HO297 := n2_
        have BK286 := n3_
        have BK311 := n4_
        have BK325 := n5_
        have HB := n6_
        clear n0_ n1_ n2_ n3_ n4_ n5_ n6_
        have n0_ := Aside0.mk (Kd.R_drew HO289.out)
        have n1_ := Aside0.mk (Kd.R_drew HO293.out)
        have n2_ := Aside0.mk (TQ.Q_drew HO297.out)
        have n3_ := Aside0.mk (blk_drew BK286.out)
        have n4_ := Aside0.mk (blk_drew BK311.out)
        have n5_ := Aside0.mk (blk_drew BK325.out)
        have n6_ := Aside0.mk (below_drew1 HB.out)
        clear HO289
        clear HO293
        clear HO297
        clear BK286
        clear BK311
        clear BK325
        clear HB
        have HO289 := n0_
        have HO293 := n1_
        have HO297 := n2_
        have BK286 := n3_
        have BK311 := n4_
        have BK325 := n5_
        have HB := n6_
        clear n0_ n1_ n2_ n3_ n4_ n5_ n6_
        refine start_ (n := 33) (S := fun w' => w'.cell? ⟨gb311, 0, none⟩ = some (.int .i64 t298) ∧ w'.cell? ⟨gb311, 1, none⟩ = some (.int .i64 t299) ∧ w'.cell? ⟨gb311, 2, none⟩ = some (.int .i64 t300) ∧ w'.cell? ⟨gb311, 3, none⟩ = some (.int .i64 t301) ∧ w'.cell? ⟨gb311, 4, none⟩ = some (.int .i64 t302) ∧ w'.cell? ⟨gb311, 5, none⟩ = some (.int .i64 t303) ∧ w'.cell? ⟨gb311, 6, none⟩ = some (.int .i64 t304) ∧ w'.cell? ⟨gb311, 7, none⟩ = some (.int .i64 t305) ∧ w'.cell? ⟨gb311, 8, none⟩ = some (.int .i64 t306) ∧ w'.cell? ⟨gb311, 9, none⟩ = some (.int .i64 t307) ∧ w'.cell? ⟨gb311, 10, none⟩ = some (.int .i64 t308) ∧ w'.cell? ⟨gb311, 11, none⟩ = some (.int .i64 t309) ∧ w'.cell? ⟨gb325, 0, none⟩ = some (.int .i64 t312) ∧ w'.cell? ⟨gb325, 1, none⟩ = some (.int .i64 t313) ∧ w'.cell? ⟨gb325, 2, none⟩ = some (.int .i64 t314) ∧ w'.cell? ⟨gb325, 3, none⟩ = some (.int .i64 t315) ∧ w'.cell? ⟨gb325, 4, none⟩ = some (.int .i64 t316) ∧ w'.cell? ⟨gb325, 5, none⟩ = some (.int .i64 t317) ∧ w'.cell? ⟨gb325, 6, none⟩ = some (.int .i64 t318) ∧ w'.cell? ⟨gb325, 7, none⟩ = some (.int .i64 t319) ∧ w'.cell? ⟨gb325, 8, none⟩ = some (.int .i64 t320) ∧ w'.cell? ⟨gb325, 9, none⟩ = some (.int .i64 t321) ∧ w'.cell? ⟨gb325, 10, none⟩ = some (.int .i64 t322) ∧ w'.cell? ⟨gb325, 11, none⟩ = some (.int .i64 t323) ∧ w'.cell? ⟨gb286, 0, none⟩ = some (.int .i64 a0_0) ∧ w'.cell? ⟨gb286, 1, none⟩ = some (.int .i64 a0_1) ∧ w'.cell? ⟨gb286, 2, none⟩ = some (.int .i64 a0_2) ∧ w'.cell? ⟨gb286, 3, none⟩ = some (.int .i64 a0_3) ∧ w'.cell? ⟨gb286, 4, none⟩ = some (.int .i64 a0_4) ∧ w'.cell? ⟨gb286, 5, none⟩ = some (.int .i64 a0_5) ∧ w'.cell? ⟨gb286, 6, none⟩ = some (.int .i64 a0_6) ∧ w'.cell? ⟨gb286, 7, none⟩ = some (.int .i64 a0_7) ∧ w'.cell? ⟨gb286, 8, none⟩ = some (.int .i64 a0_8) ∧ w'.cell? ⟨gb286, 9, none⟩ = some (.int .i64 a0_9) ∧ w'.cell? ⟨gb286, 10, none⟩ = some (.int .i64 a0_10) ∧ w'.cell? ⟨gb286, 11, none⟩ = some (.int .i64 a0_11)) (ds := []) #[false, false, false, false, false, false, false, false, false, false, false, false, false, false, false, false, false, false, false, false, false, false, false, false, false, false, false, false, false, false, false, false, false] (by kernel_rfl) rfl rfl ⟨(blk_cell BK311.out 0).trans rfl, (blk_cell BK311.out 1).trans rfl, (blk_cell BK311.out 2).trans rfl, (blk_cell BK311.out 3).trans rfl, (blk_cell BK311.out 4).trans rfl, (blk_cell BK311.out 5).trans rfl, (blk_cell BK311.out 6).trans rfl, (blk_cell BK311.out 7).trans rfl, (blk_cell BK311.out 8).trans rfl, (blk_cell BK311.out 9).trans rfl, (blk_cell BK311.out 10).trans rfl, (blk_cell BK311.out 11).trans rfl, (blk_cell BK325.out 0).trans rfl, (blk_cell BK325.out 1).trans rfl, (blk_cell BK325.out 2).trans rfl, (blk_cell BK325.out 3).trans rfl, (blk_cell BK325.out 4).trans rfl, (blk_cell BK325.out 5).trans rfl, (blk_cell BK325.out 6).trans rfl, (blk_cell BK325.out 7).trans rfl, (blk_cell BK325.out 8).trans rfl, (blk_cell BK325.out 9).trans rfl, (blk_cell BK325.out 10).trans rfl, (blk_cell BK325.out 11).trans rfl, (blk_cell BK286.out 0).trans rfl, (blk_cell BK286.out 1).trans rfl, (blk_cell BK286.out 2).trans rfl, (blk_cell BK286.out 3).trans rfl, (blk_cell BK286.out 4).trans rfl, (blk_cell BK286.out 5).trans rfl, (blk_cell BK286.out 6).trans rfl, (blk_cell BK286.out 7).trans rfl, (blk_cell BK286.out 8).trans rfl, (blk_cell BK286.out 9).trans rfl, (blk_cell BK286.out 10).trans rfl, (blk_cell BK286.out 11).trans rfl⟩ (fun hHeld => ?_); refine with_tabW leveelaw07_InodeBytes.tab6 leveelaw07_InodeBytes.bits6 (fun HT_ HW_ => ?_)
        generalize w72.drew = w73 at HO289 HO293 HO297 BK286 BK311 BK325 HB hHeld ⊢
        refine pure_ (i := 0) (N := some 38) (v := ?_) (a' := ?_) #[true, false, false, false, false, false, false, false, false, false, false, false, false, false, false, false, false, false, false, false, false, false, false, false, false, false, false, false, false, false, false, false, false] rfl rfl (any_of HT_.out (by kernel_rfl)) (fun _ _ _ h => h) (Or.inl ⟨by rfl, ?_⟩) ?_ ?_
        rotate_left
        ·intro w'
         go_simp
         with_reducible rfl
        rotate_left
        ·simp only [Act.put, List.setIfInBounds_toArray, List.set_cons_zero, List.set_cons_succ, i64_w, i32_w]
         rfl
        refine pure_ (i := 2) (N := some 40) (v := ?_) (a' := ?_) #[true, false, true, false, false, false, false, false, false, false, false, false, false, false, false, false, false, false, false, false, false, false, false, false, false, false, false, false, false, false, false, false, false] rfl rfl (any_of HT_.out (by kernel_rfl)) (fun _ _ _ h => h) (Or.inl ⟨by rfl, ?_⟩) ?_ ?_
        rotate_left
        ·intro w'
         go_simp
         with_reducible rfl
        rotate_left
        ·simp only [Act.put, List.setIfInBounds_toArray, List.set_cons_zero, List.set_cons_succ, i64_w, i32_w]
         rfl
        refine join_ (σ := Unit) 29 #[true, true, true, true, false, false, false, false, false, false, false, false, false, false, false, false, false, false, false, false, false, false, false, false, false, false, false, false, false, false, false, false, false] (fun s_ => [(39, .string (strOfNums t287)), (41, .string (strOfNums t291))]) (fun s_ w' => (w'.cell? ⟨gb311, 0, none⟩ = some (.int .i64 t298) ∧ w'.cell? ⟨gb311, 1, none⟩ = some (.int .i64 t299) ∧ w'.cell? ⟨gb311, 2, none⟩ = some (.int .i64 t300) ∧ w'.cell? ⟨gb311, 3, none⟩ = some (.int .i64 t301) ∧ w'.cell? ⟨gb311, 4, none⟩ = some (.int .i64 t302) ∧ w'.cell? ⟨gb311, 5, none⟩ = some (.int .i64 t303) ∧ w'.cell? ⟨gb311, 6, none⟩ = some (.int .i64 t304) ∧ w'.cell? ⟨gb311, 7, none⟩ = some (.int .i64 t305) ∧ w'.cell? ⟨gb311, 8, none⟩ = some (.int .i64 t306) ∧ w'.cell? ⟨gb311, 9, none⟩ = some (.int .i64 t307) ∧ w'.cell? ⟨gb311, 10, none⟩ = some (.int .i64 t308) ∧ w'.cell? ⟨gb311, 11, none⟩ = some (.int .i64 t309) ∧ w'.cell? ⟨gb325, 0, none⟩ = some (.int .i64 t312) ∧ w'.cell? ⟨gb325, 1, none⟩ = some (.int .i64 t313) ∧ w'.cell? ⟨gb325, 2, none⟩ = some (.int .i64 t314) ∧ w'.cell? ⟨gb325, 3, none⟩ = some (.int .i64 t315) ∧ w'.cell? ⟨gb325, 4, none⟩ = some (.int .i64 t316) ∧ w'.cell? ⟨gb325, 5, none⟩ = some (.int .i64 t317) ∧ w'.cell? ⟨gb325, 6, none⟩ = some (.int .i64 t318) ∧ w'.cell? ⟨gb325, 7, none⟩ = some (.int .i64 t319) ∧ w'.cell? ⟨gb325, 8, none⟩ = some (.int .i64 t320) ∧ w'.cell? ⟨gb325, 9, none⟩ = some (.int .i64 t321) ∧ w'.cell? ⟨gb325, 10, none⟩ = some (.int .i64 t322) ∧ w'.cell? ⟨gb325, 11, none⟩ = some (.int .i64 t323) ∧ w'.cell? ⟨gb286, 0, none⟩ = some (.int .i64 a0_0) ∧ w'.cell? ⟨gb286, 1, none⟩ = some (.int .i64 a0_1) ∧ w'.cell? ⟨gb286, 2, none⟩ = some (.int .i64 a0_2) ∧ w'.cell? ⟨gb286, 3, none⟩ = some (.int .i64 a0_3) ∧ w'.cell? ⟨gb286, 4, none⟩ = some (.int .i64 a0_4) ∧ w'.cell? ⟨gb286, 5, none⟩ = some (.int .i64 a0_5) ∧ w'.cell? ⟨gb286, 6, none⟩ = some (.int .i64 a0_6) ∧ w'.cell? ⟨gb286, 7, none⟩ = some (.int .i64 a0_7) ∧ w'.cell? ⟨gb286, 8, none⟩ = some (.int .i64 a0_8) ∧ w'.cell? ⟨gb286, 9, none⟩ = some (.int .i64 a0_9) ∧ w'.cell? ⟨gb286, 10, none⟩ = some (.int .i64 a0_10) ∧ w'.cell? ⟨gb286, 11, none⟩ = some (.int .i64 a0_11)) ∧ (Kd.R (Kd.int .u8) 5 w' w.heap.size (fun k_ => some k_ ≠ (v292 : Value).ownBlock ∧ some k_ ≠ (.slice Ao62 t295.length co62 : Value).ownBlock) v288 t287) ∧ (Kd.R (Kd.int .u8) 5 w' w.heap.size (fun k_ => some k_ ≠ (v288 : Value).ownBlock ∧ some k_ ≠ (.slice Ao62 t295.length co62 : Value).ownBlock) v292 t291) ∧ (TQ.Q (Kd.int .u8) 5 w' w.heap.size (fun k_ => some k_ ≠ (v288 : Value).ownBlock ∧ some k_ ≠ (v292 : Value).ownBlock) (.slice Ao62 t295.length co62) t295) ∧ (w'.heap[gb286]? = some (.cells #[.int .i64 a0_0, .int .i64 a0_1, .int .i64 a0_2, .int .i64 a0_3, .int .i64 a0_4, .int .i64 a0_5, .int .i64 a0_6, .int .i64 a0_7, .int .i64 a0_8, .int .i64 a0_9, .int .i64 a0_10, .int .i64 a0_11] 24 (0, 0))) ∧ (w'.heap[gb311]? = some (.cells #[.int .i64 t298, .int .i64 t299, .int .i64 t300, .int .i64 t301, .int .i64 t302, .int .i64 t303, .int .i64 t304, .int .i64 t305, .int .i64 t306, .int .i64 t307, .int .i64 t308, .int .i64 t309] 24 (0, 0))) ∧ (w'.heap[gb325]? = some (.cells #[.int .i64 t312, .int .i64 t313, .int .i64 t314, .int .i64 t315, .int .i64 t316, .int .i64 t317, .int .i64 t318, .int .i64 t319, .int .i64 t320, .int .i64 t321, .int .i64 t322, .int .i64 t323] 24 (0, 0))) ∧ (Below w.heap.size w w')) ?_ ?_
        rotate_left
        ·intro hCont
         refine two_ (i := 1) (j := 3) (Ni := some 39) (Nj := some 41) #[true, true, true, false, false, false, false, false, false, false, false, false, false, false, false, false, false, false, false, false, false, false, false, false, false, false, false, false, false, false, false, false, false] #[true, false, true, true, false, false, false, false, false, false, false, false, false, false, false, false, false, false, false, false, false, false, false, false, false, false, false, false, false, false, false, false, false] rfl rfl rfl rfl (two_of HT_.out (by kernel_rfl)) (by decide) (by decide) (fun K hK => ?_) (fun K hK => ?_)
         ·skip
          have hcv74 := own_string (P := Try.prog) Try.underlying25 Try.underlying5 Try.underlying9 (Kd.own_of_R HO289.out)
          refine value_ (w1 := ?_) (v := ?_) (by rfl) rfl ?_ ?_
          rotate_left 2
          ·go_simp
           constructor
           ·rfl
           ·rfl
          clear hcv74
          refine hK.out _ _ ⟨(blk_cell BK311.out 0).trans rfl, (blk_cell BK311.out 1).trans rfl, (blk_cell BK311.out 2).trans rfl, (blk_cell BK311.out 3).trans rfl, (blk_cell BK311.out 4).trans rfl, (blk_cell BK311.out 5).trans rfl, (blk_cell BK311.out 6).trans rfl, (blk_cell BK311.out 7).trans rfl, (blk_cell BK311.out 8).trans rfl, (blk_cell BK311.out 9).trans rfl, (blk_cell BK311.out 10).trans rfl, (blk_cell BK311.out 11).trans rfl, (blk_cell BK325.out 0).trans rfl, (blk_cell BK325.out 1).trans rfl, (blk_cell BK325.out 2).trans rfl, (blk_cell BK325.out 3).trans rfl, (blk_cell BK325.out 4).trans rfl, (blk_cell BK325.out 5).trans rfl, (blk_cell BK325.out 6).trans rfl, (blk_cell BK325.out 7).trans rfl, (blk_cell BK325.out 8).trans rfl, (blk_cell BK325.out 9).trans rfl, (blk_cell BK325.out 10).trans rfl, (blk_cell BK325.out 11).trans rfl, (blk_cell BK286.out 0).trans rfl, (blk_cell BK286.out 1).trans rfl, (blk_cell BK286.out 2).trans rfl, (blk_cell BK286.out 3).trans rfl, (blk_cell BK286.out 4).trans rfl, (blk_cell BK286.out 5).trans rfl, (blk_cell BK286.out 6).trans rfl, (blk_cell BK286.out 7).trans rfl, (blk_cell BK286.out 8).trans rfl, (blk_cell BK286.out 9).trans rfl, (blk_cell BK286.out 10).trans rfl, (blk_cell BK286.out 11).trans rfl⟩ (fun hHeld => ?_)
          clear hK K
          refine norm_ (a' := ?_) ?_ ?_
          rotate_left
          ·show Act.put _ (some 39) _ = _
           simp only [Act.put, List.setIfInBounds_toArray, List.set_cons_zero, List.set_cons_succ, i64_w, i32_w]
           rfl
          refine one_ (i := 3) (N := some 41) #[true, true, true, true, false, false, false, false, false, false, false, false, false, false, false, false, false, false, false, false, false, false, false, false, false, false, false, false, false, false, false, false, false] rfl rfl (one_of HT_.out (by kernel_rfl)) (by decide) (fun K hK => ?_)
          have hcv75 := own_string (P := Try.prog) Try.underlying25 Try.underlying5 Try.underlying9 (Kd.own_of_R HO293.out)
          refine value_ (w1 := ?_) (v := ?_) (by rfl) rfl ?_ ?_
          rotate_left 2
          ·go_simp
           constructor
           ·rfl
           ·rfl
          clear hcv75
          refine hK.out _ _ ⟨(blk_cell BK311.out 0).trans rfl, (blk_cell BK311.out 1).trans rfl, (blk_cell BK311.out 2).trans rfl, (blk_cell BK311.out 3).trans rfl, (blk_cell BK311.out 4).trans rfl, (blk_cell BK311.out 5).trans rfl, (blk_cell BK311.out 6).trans rfl, (blk_cell BK311.out 7).trans rfl, (blk_cell BK311.out 8).trans rfl, (blk_cell BK311.out 9).trans rfl, (blk_cell BK311.out 10).trans rfl, (blk_cell BK311.out 11).trans rfl, (blk_cell BK325.out 0).trans rfl, (blk_cell BK325.out 1).trans rfl, (blk_cell BK325.out 2).trans rfl, (blk_cell BK325.out 3).trans rfl, (blk_cell BK325.out 4).trans rfl, (blk_cell BK325.out 5).trans rfl, (blk_cell BK325.out 6).trans rfl, (blk_cell BK325.out 7).trans rfl, (blk_cell BK325.out 8).trans rfl, (blk_cell BK325.out 9).trans rfl, (blk_cell BK325.out 10).trans rfl, (blk_cell BK325.out 11).trans rfl, (blk_cell BK286.out 0).trans rfl, (blk_cell BK286.out 1).trans rfl, (blk_cell BK286.out 2).trans rfl, (blk_cell BK286.out 3).trans rfl, (blk_cell BK286.out 4).trans rfl, (blk_cell BK286.out 5).trans rfl, (blk_cell BK286.out 6).trans rfl, (blk_cell BK286.out 7).trans rfl, (blk_cell BK286.out 8).trans rfl, (blk_cell BK286.out 9).trans rfl, (blk_cell BK286.out 10).trans rfl, (blk_cell BK286.out 11).trans rfl⟩ (fun hHeld => ?_)
          clear hK K
          refine norm_ (a' := ?_) ?_ ?_
          rotate_left
          ·show Act.put _ (some 41) _ = _
           simp only [Act.put, List.setIfInBounds_toArray, List.set_cons_zero, List.set_cons_succ, i64_w, i32_w]
           rfl
          exact norm_ (by simp only [putAll, Act.put, List.setIfInBounds_toArray, List.set_cons_zero, List.set_cons_succ]) (hCont () _ ⟨hHeld, (by (with_reducible repeat (first | apply Kd.R_alloc | apply Kd.R_drewN | apply Kd.R_drew)); exact HO289.out), (by (with_reducible repeat (first | apply Kd.R_alloc | apply Kd.R_drewN | apply Kd.R_drew)); exact HO293.out), (by (with_reducible repeat (first | apply TQ.Q_alloc | apply TQ.Q_drewN | apply TQ.Q_drew)); exact HO297.out), (by (with_reducible repeat (first | refine blk_drewN ?_ _ | refine blk_drew ?_ | refine blk_alloc ?_ _)); exact BK286.out), (by (with_reducible repeat (first | refine blk_drewN ?_ _ | refine blk_drew ?_ | refine blk_alloc ?_ _)); exact BK311.out), (by (with_reducible repeat (first | refine blk_drewN ?_ _ | refine blk_drew ?_ | refine blk_alloc ?_ _)); exact BK325.out), (by repeat (first | (with_reducible first | exact HB.out | apply below_alloc | apply pw_below_drewN | apply below_drew1 | refine below_set ?_ GE286.out | refine below_set ?_ GE311.out | refine below_set ?_ GE325.out) | exact HB.out))⟩)
         ·skip
          have hcv74 := own_string (P := Try.prog) Try.underlying25 Try.underlying5 Try.underlying9 (Kd.own_of_R HO293.out)
          refine value_ (w1 := ?_) (v := ?_) (by rfl) rfl ?_ ?_
          rotate_left 2
          ·go_simp
           constructor
           ·rfl
           ·rfl
          clear hcv74
          refine hK.out _ _ ⟨(blk_cell BK311.out 0).trans rfl, (blk_cell BK311.out 1).trans rfl, (blk_cell BK311.out 2).trans rfl, (blk_cell BK311.out 3).trans rfl, (blk_cell BK311.out 4).trans rfl, (blk_cell BK311.out 5).trans rfl, (blk_cell BK311.out 6).trans rfl, (blk_cell BK311.out 7).trans rfl, (blk_cell BK311.out 8).trans rfl, (blk_cell BK311.out 9).trans rfl, (blk_cell BK311.out 10).trans rfl, (blk_cell BK311.out 11).trans rfl, (blk_cell BK325.out 0).trans rfl, (blk_cell BK325.out 1).trans rfl, (blk_cell BK325.out 2).trans rfl, (blk_cell BK325.out 3).trans rfl, (blk_cell BK325.out 4).trans rfl, (blk_cell BK325.out 5).trans rfl, (blk_cell BK325.out 6).trans rfl, (blk_cell BK325.out 7).trans rfl, (blk_cell BK325.out 8).trans rfl, (blk_cell BK325.out 9).trans rfl, (blk_cell BK325.out 10).trans rfl, (blk_cell BK325.out 11).trans rfl, (blk_cell BK286.out 0).trans rfl, (blk_cell BK286.out 1).trans rfl, (blk_cell BK286.out 2).trans rfl, (blk_cell BK286.out 3).trans rfl, (blk_cell BK286.out 4).trans rfl, (blk_cell BK286.out 5).trans rfl, (blk_cell BK286.out 6).trans rfl, (blk_cell BK286.out 7).trans rfl, (blk_cell BK286.out 8).trans rfl, (blk_cell BK286.out 9).trans rfl, (blk_cell BK286.out 10).trans rfl, (blk_cell BK286.out 11).trans rfl⟩ (fun hHeld => ?_)
          clear hK K
          refine norm_ (a' := ?_) ?_ ?_
          rotate_left
          ·show Act.put _ (some 41) _ = _
           simp only [Act.put, List.setIfInBounds_toArray, List.set_cons_zero, List.set_cons_succ, i64_w, i32_w]
           rfl
          refine one_ (i := 1) (N := some 39) #[true, true, true, true, false, false, false, false, false, false, false, false, false, false, false, false, false, false, false, false, false, false, false, false, false, false, false, false, false, false, false, false, false] rfl rfl (one_of HT_.out (by kernel_rfl)) (by decide) (fun K hK => ?_)
          have hcv75 := own_string (P := Try.prog) Try.underlying25 Try.underlying5 Try.underlying9 (Kd.own_of_R HO289.out)
          refine value_ (w1 := ?_) (v := ?_) (by rfl) rfl ?_ ?_
          rotate_left 2
          ·go_simp
           constructor
           ·rfl
           ·rfl
          clear hcv75
          refine hK.out _ _ ⟨(blk_cell BK311.out 0).trans rfl, (blk_cell BK311.out 1).trans rfl, (blk_cell BK311.out 2).trans rfl, (blk_cell BK311.out 3).trans rfl, (blk_cell BK311.out 4).trans rfl, (blk_cell BK311.out 5).trans rfl, (blk_cell BK311.out 6).trans rfl, (blk_cell BK311.out 7).trans rfl, (blk_cell BK311.out 8).trans rfl, (blk_cell BK311.out 9).trans rfl, (blk_cell BK311.out 10).trans rfl, (blk_cell BK311.out 11).trans rfl, (blk_cell BK325.out 0).trans rfl, (blk_cell BK325.out 1).trans rfl, (blk_cell BK325.out 2).trans rfl, (blk_cell BK325.out 3).trans rfl, (blk_cell BK325.out 4).trans rfl, (blk_cell BK325.out 5).trans rfl, (blk_cell BK325.out 6).trans rfl, (blk_cell BK325.out 7).trans rfl, (blk_cell BK325.out 8).trans rfl, (blk_cell BK325.out 9).trans rfl, (blk_cell BK325.out 10).trans rfl, (blk_cell BK325.out 11).trans rfl, (blk_cell BK286.out 0).trans rfl, (blk_cell BK286.out 1).trans rfl, (blk_cell BK286.out 2).trans rfl, (blk_cell BK286.out 3).trans rfl, (blk_cell BK286.out 4).trans rfl, (blk_cell BK286.out 5).trans rfl, (blk_cell BK286.out 6).trans rfl, (blk_cell BK286.out 7).trans rfl, (blk_cell BK286.out 8).trans rfl, (blk_cell BK286.out 9).trans rfl, (blk_cell BK286.out 10).trans rfl, (blk_cell BK286.out 11).trans rfl⟩ (fun hHeld => ?_)
          clear hK K
          refine norm_ (a' := ?_) ?_ ?_
          rotate_left
          ·show Act.put _ (some 39) _ = _
           simp only [Act.put, List.setIfInBounds_toArray, List.set_cons_zero, List.set_cons_succ, i64_w, i32_w]
           rfl
          exact norm_ (by simp only [putAll, Act.put, List.setIfInBounds_toArray, List.set_cons_zero, List.set_cons_succ]) (hCont () _ ⟨hHeld, (by (with_reducible repeat (first | apply Kd.R_alloc | apply Kd.R_drewN | apply Kd.R_drew)); exact HO289.out), (by (with_reducible repeat (first | apply Kd.R_alloc | apply Kd.R_drewN | apply Kd.R_drew)); exact HO293.out), (by (with_reducible repeat (first | apply TQ.Q_alloc | apply TQ.Q_drewN | apply TQ.Q_drew)); exact HO297.out), (by (with_reducible repeat (first | refine blk_drewN ?_ _ | refine blk_drew ?_ | refine blk_alloc ?_ _)); exact BK286.out), (by (with_reducible repeat (first | refine blk_drewN ?_ _ | refine blk_drew ?_ | refine blk_alloc ?_ _)); exact BK311.out), (by (with_reducible repeat (first | refine blk_drewN ?_ _ | refine blk_drew ?_ | refine blk_alloc ?_ _)); exact BK325.out), (by repeat (first | (with_reducible first | exact HB.out | apply below_alloc | apply pw_below_drewN | apply below_drew1 | refine below_set ?_ GE286.out | refine below_set ?_ GE311.out | refine below_set ?_ GE325.out) | exact HB.out))⟩)
        rintro _ w76 ⟨hS_, h0_, h1_, h2_, h3_, h4_, h5_, h6_⟩
        have n0_ : Aside0 (Kd.R (Kd.int .u8) 5 w76 w.heap.size (fun k_ => some k_ ≠ (v292 : Value).ownBlock ∧ some k_ ≠ (.slice Ao62 t295.length co62 : Value).ownBlock) v288 t287) := ⟨h0_⟩
        have n1_ : Aside0 (Kd.R (Kd.int .u8) 5 w76 w.heap.size (fun k_ => some k_ ≠ (v288 : Value).ownBlock ∧ some k_ ≠ (.slice Ao62 t295.length co62 : Value).ownBlock) v292 t291) := ⟨h1_⟩
        have n2_ : Aside0 (TQ.Q (Kd.int .u8) 5 w76 w.heap.size (fun k_ => some k_ ≠ (v288 : Value).ownBlock ∧ some k_ ≠ (v292 : Value).ownBlock) (.slice Ao62 t295.length co62) t295) := ⟨h2_⟩
        have n3_ : Aside0 (w76.heap[gb286]? = some (.cells #[.int .i64 a0_0, .int .i64 a0_1, .int .i64 a0_2, .int .i64 a0_3, .int .i64 a0_4, .int .i64 a0_5, .int .i64 a0_6, .int .i64 a0_7, .int .i64 a0_8, .int .i64 a0_9, .int .i64 a0_10, .int .i64 a0_11] 24 (0, 0))) := ⟨h3_⟩
        have n4_ : Aside0 (w76.heap[gb311]? = some (.cells #[.int .i64 t298, .int .i64 t299, .int .i64 t300, .int .i64 t301, .int .i64 t302, .int .i64 t303, .int .i64 t304, .int .i64 t305, .int .i64 t306, .int .i64 t307, .int .i64 t308, .int .i64 t309] 24 (0, 0))) := ⟨h4_⟩
        have n5_ : Aside0 (w76.heap[gb325]? = some (.cells #[.int .i64 t312, .int .i64 t313, .int .i64 t314, .int .i64 t315, .int .i64 t316, .int .i64 t317, .int .i64 t318, .int .i64 t319, .int .i64 t320, .int .i64 t321, .int .i64 t322, .int .i64 t323] 24 (0, 0))) := ⟨h5_⟩
        have n6_ : Aside0 (Below w.heap.size w w76) := ⟨h6_⟩
        clear HO289
        clear HO293
        clear HO297
        clear BK286
        clear BK311
        clear BK325
        clear HB
        clear h0_ h1_ h2_ h3_ h4_ h5_ h6_
        have HO289 := n0_
        have HO293 := n1_
        have HO297 := n2_
        have BK286 := n3_
        have BK311 := n4_
        have BK325 := n5_
        have HB := n6_
        clear n0_ n1_ n2_ n3_ n4_ n5_ n6_
        have hHeld : w76.cell? ⟨gb311, 0, none⟩ = some (.int .i64 t298) ∧ w76.cell? ⟨gb311, 1, none⟩ = some (.int .i64 t299) ∧ w76.cell? ⟨gb311, 2, none⟩ = some (.int .i64 t300) ∧ w76.cell? ⟨gb311, 3, none⟩ = some (.int .i64 t301) ∧ w76.cell? ⟨gb311, 4, none⟩ = some (.int .i64 t302) ∧ w76.cell? ⟨gb311, 5, none⟩ = some (.int .i64 t303) ∧ w76.cell? ⟨gb311, 6, none⟩ = some (.int .i64 t304) ∧ w76.cell? ⟨gb311, 7, none⟩ = some (.int .i64 t305) ∧ w76.cell? ⟨gb311, 8, none⟩ = some (.int .i64 t306) ∧ w76.cell? ⟨gb311, 9, none⟩ = some (.int .i64 t307) ∧ w76.cell? ⟨gb311, 10, none⟩ = some (.int .i64 t308) ∧ w76.cell? ⟨gb311, 11, none⟩ = some (.int .i64 t309) ∧ w76.cell? ⟨gb325, 0, none⟩ = some (.int .i64 t312) ∧ w76.cell? ⟨gb325, 1, none⟩ = some (.int .i64 t313) ∧ w76.cell? ⟨gb325, 2, none⟩ = some (.int .i64 t314) ∧ w76.cell? ⟨gb325, 3, none⟩ = some (.int .i64 t315) ∧ w76.cell? ⟨gb325, 4, none⟩ = some (.int .i64 t316) ∧ w76.cell? ⟨gb325, 5, none⟩ = some (.int .i64 t317) ∧ w76.cell? ⟨gb325, 6, none⟩ = some (.int .i64 t318) ∧ w76.cell? ⟨gb325, 7, none⟩ = some (.int .i64 t319) ∧ w76.cell? ⟨gb325, 8, none⟩ = some (.int .i64 t320) ∧ w76.cell? ⟨gb325, 9, none⟩ = some (.int .i64 t321) ∧ w76.cell? ⟨gb325, 10, none⟩ = some (.int .i64 t322) ∧ w76.cell? ⟨gb325, 11, none⟩ = some (.int .i64 t323) ∧ w76.cell? ⟨gb286, 0, none⟩ = some (.int .i64 a0_0) ∧ w76.cell? ⟨gb286, 1, none⟩ = some (.int .i64 a0_1) ∧ w76.cell? ⟨gb286, 2, none⟩ = some (.int .i64 a0_2) ∧ w76.cell? ⟨gb286, 3, none⟩ = some (.int .i64 a0_3) ∧ w76.cell? ⟨gb286, 4, none⟩ = some (.int .i64 a0_4) ∧ w76.cell? ⟨gb286, 5, none⟩ = some (.int .i64 a0_5) ∧ w76.cell? ⟨gb286, 6, none⟩ = some (.int .i64 a0_6) ∧ w76.cell? ⟨gb286, 7, none⟩ = some (.int .i64 a0_7) ∧ w76.cell? ⟨gb286, 8, none⟩ = some (.int .i64 a0_8) ∧ w76.cell? ⟨gb286, 9, none⟩ = some (.int .i64 a0_9) ∧ w76.cell? ⟨gb286, 10, none⟩ = some (.int .i64 a0_10) ∧ w76.cell? ⟨gb286, 11, none⟩ = some (.int .i64 a0_11) := hS_
        refine norm_ (a' := ?_) ?_ ?_
        rotate_left
        ·simp only [putAll, Act.put, List.setIfInBounds_toArray, List.set_cons_zero, List.set_cons_succ]
         rfl
        refine pure_ (i := 4) (N := some 42) (v := ?_) (a' := ?_) #[true, true, true, true, true, false, false, false, false, false, false, false, false, false, false, false, false, false, false, false, false, false, false, false, false, false, false, false, false, false, false, false, false] rfl rfl (any_of HT_.out (by kernel_rfl)) (fun _ _ _ h => h) (Or.inl ⟨by rfl, ?_⟩) ?_ ?_
        rotate_left
        ·intro w'
         go_simp
         with_reducible rfl
        rotate_left
        ·simp only [Act.put, List.setIfInBounds_toArray, List.set_cons_zero, List.set_cons_succ, i64_w, i32_w]
         rfl
        refine pure_ (i := 5) (N := some 43) (v := ?_) (a' := ?_) #[true, true, true, true, true, true, false, false, false, false, false, false, false, false, false, false, false, false, false, false, false, false, false, false, false, false, false, false, false, false, false, false, false] rfl rfl (any_of HT_.out (by kernel_rfl)) (fun _ _ _ h => h) (Or.inl ⟨by rfl, ?_⟩) ?_ ?_
        rotate_left
        ·intro w'
         go_simp
         with_reducible rfl
        rotate_left
        ·simp only [Act.put, List.setIfInBounds_toArray, List.set_cons_zero, List.set_cons_succ, i64_w, i32_w]
         rfl
        refine pure_ (i := 6) (N := some 44) (v := ?_) (a' := ?_) #[true, true, true, true, true, true, true, false, false, false, false, false, false, false, false, false, false, false, false, false, false, false, false, false, false, false, false, false, false, false, false, false, false] rfl rfl (any_of HT_.out (by kernel_rfl)) (fun _ _ _ h => h) (Or.inl ⟨by rfl, ?_⟩) ?_ ?_
        rotate_left
        ·intro w'
         go_simp
         with_reducible rfl
        rotate_left
        ·simp only [Act.put, List.setIfInBounds_toArray, List.set_cons_zero, List.set_cons_succ, i64_w, i32_w]
         rfl
        refine pure_ (i := 7) (N := some 45) (v := ?_) (a' := ?_) #[true, true, true, true, true, true, true, true, false, false, false, false, false, false, false, false, false, false, false, false, false, false, false, false, false, false, false, false, false, false, false, false, false] rfl rfl (any_of HT_.out (by kernel_rfl)) (fun _ _ _ h => h) (Or.inl ⟨by rfl, ?_⟩) ?_ ?_
        rotate_left
        ·intro w'
         go_simp
         with_reducible rfl
        rotate_left
        ·simp only [Act.put, List.setIfInBounds_toArray, List.set_cons_zero, List.set_cons_succ, i64_w, i32_w]
         rfl
        refine pure_ (i := 8) (N := some 46) (v := ?_) (a' := ?_) #[true, true, true, true, true, true, true, true, true, false, false, false, false, false, false, false, false, false, false, false, false, false, false, false, false, false, false, false, false, false, false, false, false] rfl rfl (any_of HT_.out (by kernel_rfl)) (fun _ _ _ h => h) (Or.inl ⟨by rfl, ?_⟩) ?_ ?_
        rotate_left
        ·intro w'
         go_simp
         with_reducible rfl
        rotate_left
        ·simp only [Act.put, List.setIfInBounds_toArray, List.set_cons_zero, List.set_cons_succ, i64_w, i32_w]
         rfl
        refine pure_ (i := 9) (N := some 47) (v := ?_) (a' := ?_) #[true, true, true, true, true, true, true, true, true, true, false, false, false, false, false, false, false, false, false, false, false, false, false, false, false, false, false, false, false, false, false, false, false] rfl rfl (any_of HT_.out (by kernel_rfl)) (fun _ _ _ h => h) (Or.inl ⟨by rfl, ?_⟩) ?_ ?_
        rotate_left
        ·intro w'
         go_simp
         with_reducible rfl
        rotate_left
        ·simp only [Act.put, List.setIfInBounds_toArray, List.set_cons_zero, List.set_cons_succ, i64_w, i32_w]
         rfl
        refine pure_ (i := 10) (N := some 48) (v := ?_) (a' := ?_) #[true, true, true, true, true, true, true, true, true, true, true, false, false, false, false, false, false, false, false, false, false, false, false, false, false, false, false, false, false, false, false, false, false] rfl rfl (any_of HT_.out (by kernel_rfl)) (fun _ _ _ h => h) (Or.inl ⟨by rfl, ?_⟩) ?_ ?_
        rotate_left
        ·intro w'
         go_simp
         with_reducible rfl
        rotate_left
        ·simp only [Act.put, List.setIfInBounds_toArray, List.set_cons_zero, List.set_cons_succ, i64_w, i32_w]
         rfl
        refine take_ (i := 11) (N := some 49) (v := ?_) (a' := ?_) #[true, true, true, true, true, true, true, true, true, true, true, true, false, false, false, false, false, false, false, false, false, false, false, false, false, false, false, false, false, false, false, false, false] rfl rfl (take_ofW HT_.out HW_.out (by kernel_rfl)) (fun _ _ _ h => h) (Or.inl ⟨by rfl, ?_⟩) hHeld ?_ ?_
        rotate_left
        ·rintro w' ⟨s0, s1, s2, s3, s4, s5, s6, s7, s8, s9, s10, s11, s12, s13, s14, s15, s16, s17, s18, s19, s20, s21, s22, s23, s24, s25, s26, s27, s28, s29, s30, s31, s32, s33, s34, s35⟩
         go_simp
         with_reducible rfl
        rotate_left
        ·simp only [Act.put, List.setIfInBounds_toArray, List.set_cons_zero, List.set_cons_succ, i64_w, i32_w]
         rfl
        refine take_ (i := 12) (N := some 50) (v := ?_) (a' := ?_) #[true, true, true, true, true, true, true, true, true, true, true, true, true, false, false, false, false, false, false, false, false, false, false, false, false, false, false, false, false, false, false, false, false] rfl rfl (take_ofW HT_.out HW_.out (by kernel_rfl)) (fun _ _ _ h => h) (Or.inl ⟨by rfl, ?_⟩) hHeld ?_ ?_
        rotate_left
        ·rintro w' ⟨s0, s1, s2, s3, s4, s5, s6, s7, s8, s9, s10, s11, s12, s13, s14, s15, s16, s17, s18, s19, s20, s21, s22, s23, s24, s25, s26, s27, s28, s29, s30, s31, s32, s33, s34, s35⟩
         go_simp
         with_reducible rfl
        rotate_left
        ·simp only [Act.put, List.setIfInBounds_toArray, List.set_cons_zero, List.set_cons_succ, i64_w, i32_w]
         rfl
        refine pure_ (i := 13) (N := some 51) (v := ?_) (a' := ?_) #[true, true, true, true, true, true, true, true, true, true, true, true, true, true, false, false, false, false, false, false, false, false, false, false, false, false, false, false, false, false, false, false, false] rfl rfl (any_of HT_.out (by kernel_rfl)) (fun _ _ _ h => h) (Or.inl ⟨by rfl, ?_⟩) ?_ ?_
        rotate_left
        ·intro w'
         go_simp
         with_reducible rfl
        rotate_left
        ·simp only [Act.put, List.setIfInBounds_toArray, List.set_cons_zero, List.set_cons_succ, i64_w, i32_w]
         rfl
        refine pure_ (i := 14) (N := some 52) (v := ?_) (a' := ?_) #[true, true, true, true, true, true, true, true, true, true, true, true, true, true, true, false, false, false, false, false, false, false, false, false, false, false, false, false, false, false, false, false, false] rfl rfl (any_of HT_.out (by kernel_rfl)) (fun _ _ _ h => h) (Or.inl ⟨by rfl, ?_⟩) ?_ ?_
        rotate_left
        ·intro w'
         go_simp
         with_reducible rfl
        rotate_left
        ·simp only [Act.put, List.setIfInBounds_toArray, List.set_cons_zero, List.set_cons_succ, i64_w, i32_w]
         rfl
        refine pure_ (i := 15) (N := some 53) (v := ?_) (a' := ?_) #[true, true, true, true, true, true, true, true, true, true, true, true, true, true, true, true, false, false, false, false, false, false, false, false, false, false, false, false, false, false, false, false, false] rfl rfl (any_of HT_.out (by kernel_rfl)) (fun _ _ _ h => h) (Or.inl ⟨by rfl, ?_⟩) ?_ ?_
        rotate_left
        ·intro w'
         go_simp
         with_reducible rfl
        rotate_left
        ·simp only [Act.put, List.setIfInBounds_toArray, List.set_cons_zero, List.set_cons_succ, i64_w, i32_w]
         rfl
        refine pure_ (i := 16) (N := some 54) (v := ?_) (a' := ?_) #[true, true, true, true, true, true, true, true, true, true, true, true, true, true, true, true, true, false, false, false, false, false, false, false, false, false, false, false, false, false, false, false, false] rfl rfl (any_of HT_.out (by kernel_rfl)) (fun _ _ _ h => h) (Or.inl ⟨by rfl, ?_⟩) ?_ ?_
        rotate_left
        ·intro w'
         go_simp
         with_reducible rfl
        rotate_left
        ·simp only [Act.put, List.setIfInBounds_toArray, List.set_cons_zero, List.set_cons_succ, i64_w, i32_w]
         rfl
        refine pure_ (i := 17) (N := some 55) (v := ?_) (a' := ?_) #[true, true, true, true, true, true, true, true, true, true, true, true, true, true, true, true, true, true, false, false, false, false, false, false, false, false, false, false, false, false, false, false, false] rfl rfl (any_of HT_.out (by kernel_rfl)) (fun _ _ _ h => h) (Or.inl ⟨by rfl, ?_⟩) ?_ ?_
        rotate_left
        ·intro w'
         go_simp
         with_reducible rfl
        rotate_left
        ·simp only [Act.put, List.setIfInBounds_toArray, List.set_cons_zero, List.set_cons_succ, i64_w, i32_w]
         rfl
        refine pure_ (i := 18) (N := some 56) (v := ?_) (a' := ?_) #[true, true, true, true, true, true, true, true, true, true, true, true, true, true, true, true, true, true, true, false, false, false, false, false, false, false, false, false, false, false, false, false, false] rfl rfl (any_of HT_.out (by kernel_rfl)) (fun _ _ _ h => h) (Or.inl ⟨by rfl, ?_⟩) ?_ ?_
        rotate_left
        ·intro w'
         go_simp
         with_reducible rfl
        rotate_left
        ·simp only [Act.put, List.setIfInBounds_toArray, List.set_cons_zero, List.set_cons_succ, i64_w, i32_w]
         rfl
        refine pure_ (i := 19) (N := some 57) (v := ?_) (a' := ?_) #[true, true, true, true, true, true, true, true, true, true, true, true, true, true, true, true, true, true, true, true, false, false, false, false, false, false, false, false, false, false, false, false, false] rfl rfl (any_of HT_.out (by kernel_rfl)) (fun _ _ _ h => h) (Or.inl ⟨by rfl, ?_⟩) ?_ ?_
        rotate_left
        ·intro w'
         go_simp
         with_reducible rfl
        rotate_left
        ·simp only [Act.put, List.setIfInBounds_toArray, List.set_cons_zero, List.set_cons_succ, i64_w, i32_w]
         rfl
        refine pure_ (i := 20) (N := some 58) (v := ?_) (a' := ?_) #[true, true, true, true, true, true, true, true, true, true, true, true, true, true, true, true, true, true, true, true, true, false, false, false, false, false, false, false, false, false, false, false, false] rfl rfl (any_of HT_.out (by kernel_rfl)) (fun _ _ _ h => h) (Or.inl ⟨by rfl, ?_⟩) ?_ ?_
        rotate_left
        ·intro w'
         go_simp
         with_reducible rfl
        rotate_left
        ·simp only [Act.put, List.setIfInBounds_toArray, List.set_cons_zero, List.set_cons_succ, i64_w, i32_w]
         rfl
        refine take_ (i := 21) (N := some 59) (v := ?_) (a' := ?_) #[true, true, true, true, true, true, true, true, true, true, true, true, true, true, true, true, true, true, true, true, true, true, false, false, false, false, false, false, false, false, false, false, false] rfl rfl (take_ofW HT_.out HW_.out (by kernel_rfl)) (fun _ _ _ h => h) (Or.inl ⟨by rfl, ?_⟩) hHeld ?_ ?_
        rotate_left
        ·rintro w' ⟨s0, s1, s2, s3, s4, s5, s6, s7, s8, s9, s10, s11, s12, s13, s14, s15, s16, s17, s18, s19, s20, s21, s22, s23, s24, s25, s26, s27, s28, s29, s30, s31, s32, s33, s34, s35⟩
         go_simp
         with_reducible rfl
        rotate_left
        ·simp only [Act.put, List.setIfInBounds_toArray, List.set_cons_zero, List.set_cons_succ, i64_w, i32_w]
         rfl
        refine take_ (i := 23) (N := some 61) (v := ?_) (a' := ?_) #[true, true, true, true, true, true, true, true, true, true, true, true, true, true, true, true, true, true, true, true, true, true, false, true, false, false, false, false, false, false, false, false, false] rfl rfl (take_ofW HT_.out HW_.out (by kernel_rfl)) (fun _ _ _ h => h) (Or.inl ⟨by rfl, ?_⟩) hHeld ?_ ?_
        rotate_left
        ·rintro w' ⟨s0, s1, s2, s3, s4, s5, s6, s7, s8, s9, s10, s11, s12, s13, s14, s15, s16, s17, s18, s19, s20, s21, s22, s23, s24, s25, s26, s27, s28, s29, s30, s31, s32, s33, s34, s35⟩
         go_simp
         with_reducible rfl
        rotate_left
        ·simp only [Act.put, List.setIfInBounds_toArray, List.set_cons_zero, List.set_cons_succ, i64_w, i32_w]
         rfl
        refine one_ (i := 22) (N := some 60) #[true, true, true, true, true, true, true, true, true, true, true, true, true, true, true, true, true, true, true, true, true, true, true, true, false, false, false, false, false, false, false, false, false] rfl rfl (one_of HT_.out (by kernel_rfl)) (by decide) (fun K hK => ?_)
        refine goes_ Try.func11 (by kernel_rfl) rfl #[.agg #[.int .i64 a0_0, .int .i64 a0_1, .int .i64 a0_2, .int .i64 a0_3, .int .i64 a0_4, .int .i64 a0_5, .int .i64 a0_6, .int .i64 a0_7, .int .i64 a0_8, .int .i64 a0_9, .int .i64 a0_10, .int .i64 a0_11]] (by rfl) rfl rfl (by (try simp only [List.map_toArray, List.map_cons, List.map_nil]); first | done | rfl | (simp only [List.length_drop, List.length_take]; rfl)) ?_
        with_reducible refine (inode_Right.calls k a0_0 a0_1 a0_2 a0_3 a0_4 a0_5 a0_6 a0_7 a0_8 a0_9 a0_10 a0_11 t326 _ A12.out).mono ?_
        rintro e w77 ⟨rfl, hb⟩
        refine ⟨_, rfl, ?_⟩
        have n0_ := Aside0.mk (Kd.R_below (by (with_reducible repeat (first | apply Kd.R_alloc | apply Kd.R_drewN | apply Kd.R_drew)); exact HO289.out) hb)
        have n1_ := Aside0.mk (Kd.R_below (by (with_reducible repeat (first | apply Kd.R_alloc | apply Kd.R_drewN | apply Kd.R_drew)); exact HO293.out) hb)
        have n2_ := Aside0.mk (TQ.Q_below (by (with_reducible repeat (first | apply TQ.Q_alloc | apply TQ.Q_drewN | apply TQ.Q_drew)); exact HO297.out) hb)
        have n3_ := Aside0.mk (blk_below (g := gb286) (o := .cells #[.int .i64 a0_0, .int .i64 a0_1, .int .i64 a0_2, .int .i64 a0_3, .int .i64 a0_4, .int .i64 a0_5, .int .i64 a0_6, .int .i64 a0_7, .int .i64 a0_8, .int .i64 a0_9, .int .i64 a0_10, .int .i64 a0_11] 24 (0, 0)) (by (with_reducible repeat (first | refine blk_drewN ?_ _ | refine blk_drew ?_ | refine blk_alloc ?_ _)); exact BK286.out) hb)
        have n4_ := Aside0.mk (blk_below (g := gb311) (o := .cells #[.int .i64 t298, .int .i64 t299, .int .i64 t300, .int .i64 t301, .int .i64 t302, .int .i64 t303, .int .i64 t304, .int .i64 t305, .int .i64 t306, .int .i64 t307, .int .i64 t308, .int .i64 t309] 24 (0, 0)) (by (with_reducible repeat (first | refine blk_drewN ?_ _ | refine blk_drew ?_ | refine blk_alloc ?_ _)); exact BK311.out) hb)
        have n5_ := Aside0.mk (blk_below (g := gb325) (o := .cells #[.int .i64 t312, .int .i64 t313, .int .i64 t314, .int .i64 t315, .int .i64 t316, .int .i64 t317, .int .i64 t318, .int .i64 t319, .int .i64 t320, .int .i64 t321, .int .i64 t322, .int .i64 t323] 24 (0, 0)) (by (with_reducible repeat (first | refine blk_drewN ?_ _ | refine blk_drew ?_ | refine blk_alloc ?_ _)); exact BK325.out) hb)
        have n6_ := Aside0.mk (below_step (by repeat (first | (with_reducible first | exact HB.out | apply below_alloc | apply pw_below_drewN | apply below_drew1 | refine below_set ?_ GE286.out | refine below_set ?_ GE311.out | refine below_set ?_ GE325.out) | exact HB.out)) hb)
        clear HO289
        clear HO293
        clear HO297
        clear BK286
        clear BK311
        clear BK325
        clear HB
        have HO289 := n0_
        have HO293 := n1_
        have HO297 := n2_
        have BK286 := n3_
        have BK311 := n4_
        have BK325 := n5_
        have HB := n6_
        clear n0_ n1_ n2_ n3_ n4_ n5_ n6_
        (try clear hb)
        (try clear hb2)
        (try clear hk)
        (try clear hi)
        refine hK.out _ _ ⟨(blk_cell BK311.out 0).trans rfl, (blk_cell BK311.out 1).trans rfl, (blk_cell BK311.out 2).trans rfl, (blk_cell BK311.out 3).trans rfl, (blk_cell BK311.out 4).trans rfl, (blk_cell BK311.out 5).trans rfl, (blk_cell BK311.out 6).trans rfl, (blk_cell BK311.out 7).trans rfl, (blk_cell BK311.out 8).trans rfl, (blk_cell BK311.out 9).trans rfl, (blk_cell BK311.out 10).trans rfl, (blk_cell BK311.out 11).trans rfl, (blk_cell BK325.out 0).trans rfl, (blk_cell BK325.out 1).trans rfl, (blk_cell BK325.out 2).trans rfl, (blk_cell BK325.out 3).trans rfl, (blk_cell BK325.out 4).trans rfl, (blk_cell BK325.out 5).trans rfl, (blk_cell BK325.out 6).trans rfl, (blk_cell BK325.out 7).trans rfl, (blk_cell BK325.out 8).trans rfl, (blk_cell BK325.out 9).trans rfl, (blk_cell BK325.out 10).trans rfl, (blk_cell BK325.out 11).trans rfl, (blk_cell BK286.out 0).trans rfl, (blk_cell BK286.out 1).trans rfl, (blk_cell BK286.out 2).trans rfl, (blk_cell BK286.out 3).trans rfl, (blk_cell BK286.out 4).trans rfl, (blk_cell BK286.out 5).trans rfl, (blk_cell BK286.out 6).trans rfl, (blk_cell BK286.out 7).trans rfl, (blk_cell BK286.out 8).trans rfl, (blk_cell BK286.out 9).trans rfl, (blk_cell BK286.out 10).trans rfl, (blk_cell BK286.out 11).trans rfl⟩ (fun hHeld => ?_)
        clear hK K
        refine norm_ (a' := ?_) ?_ ?_
        rotate_left
        ·show Act.put _ (some 60) _ = _
         simp only [Act.put, List.setIfInBounds_toArray, List.set_cons_zero, List.set_cons_succ, i64_w, i32_w]
         rfl
        refine one_ (i := 24) (N := some 62) #[true, true, true, true, true, true, true, true, true, true, true, true, true, true, true, true, true, true, true, true, true, true, true, true, true, false, false, false, false, false, false, false, false] rfl rfl (one_of HT_.out (by kernel_rfl)) (by decide) (fun K hK => ?_)
        refine goes_ Try.func12 (by kernel_rfl) rfl #[.agg #[.int .i64 a0_0, .int .i64 a0_1, .int .i64 a0_2, .int .i64 a0_3, .int .i64 a0_4, .int .i64 a0_5, .int .i64 a0_6, .int .i64 a0_7, .int .i64 a0_8, .int .i64 a0_9, .int .i64 a0_10, .int .i64 a0_11]] (by rfl) rfl rfl (by (try simp only [List.map_toArray, List.map_cons, List.map_nil]); first | done | rfl | (simp only [List.length_drop, List.length_take]; rfl)) ?_
        with_reducible refine (leveeref07_Right.calls k a0_0 a0_1 a0_2 a0_3 a0_4 a0_5 a0_6 a0_7 a0_8 a0_9 a0_10 a0_11 t327 _ A13.out).mono ?_
        rintro e w78 ⟨rfl, hb⟩
        refine ⟨_, rfl, ?_⟩
        have n0_ := Aside0.mk (Kd.R_below (by (with_reducible repeat (first | apply Kd.R_alloc | apply Kd.R_drewN | apply Kd.R_drew)); exact HO289.out) hb)
        have n1_ := Aside0.mk (Kd.R_below (by (with_reducible repeat (first | apply Kd.R_alloc | apply Kd.R_drewN | apply Kd.R_drew)); exact HO293.out) hb)
        have n2_ := Aside0.mk (TQ.Q_below (by (with_reducible repeat (first | apply TQ.Q_alloc | apply TQ.Q_drewN | apply TQ.Q_drew)); exact HO297.out) hb)
        have n3_ := Aside0.mk (blk_below (g := gb286) (o := .cells #[.int .i64 a0_0, .int .i64 a0_1, .int .i64 a0_2, .int .i64 a0_3, .int .i64 a0_4, .int .i64 a0_5, .int .i64 a0_6, .int .i64 a0_7, .int .i64 a0_8, .int .i64 a0_9, .int .i64 a0_10, .int .i64 a0_11] 24 (0, 0)) (by (with_reducible repeat (first | refine blk_drewN ?_ _ | refine blk_drew ?_ | refine blk_alloc ?_ _)); exact BK286.out) hb)
        have n4_ := Aside0.mk (blk_below (g := gb311) (o := .cells #[.int .i64 t298, .int .i64 t299, .int .i64 t300, .int .i64 t301, .int .i64 t302, .int .i64 t303, .int .i64 t304, .int .i64 t305, .int .i64 t306, .int .i64 t307, .int .i64 t308, .int .i64 t309] 24 (0, 0)) (by (with_reducible repeat (first | refine blk_drewN ?_ _ | refine blk_drew ?_ | refine blk_alloc ?_ _)); exact BK311.out) hb)
        have n5_ := Aside0.mk (blk_below (g := gb325) (o := .cells #[.int .i64 t312, .int .i64 t313, .int .i64 t314, .int .i64 t315, .int .i64 t316, .int .i64 t317, .int .i64 t318, .int .i64 t319, .int .i64 t320, .int .i64 t321, .int .i64 t322, .int .i64 t323] 24 (0, 0)) (by (with_reducible repeat (first | refine blk_drewN ?_ _ | refine blk_drew ?_ | refine blk_alloc ?_ _)); exact BK325.out) hb)
        have n6_ := Aside0.mk (below_step (by repeat (first | (with_reducible first | exact HB.out | apply below_alloc | apply pw_below_drewN | apply below_drew1 | refine below_set ?_ GE286.out | refine below_set ?_ GE311.out | refine below_set ?_ GE325.out) | exact HB.out)) hb)
        clear HO289
        clear HO293
        clear HO297
        clear BK286
        clear BK311
        clear BK325
        clear HB
        have HO289 := n0_
        have HO293 := n1_
        have HO297 := n2_
        have BK286 := n3_
        have BK311 := n4_
        have BK325 := n5_
        have HB := n6_
        clear n0_ n1_ n2_ n3_ n4_ n5_ n6_
        (try clear hb)
        (try clear hb2)
        (try clear hk)
        (try clear hi)
        refine hK.out _ _ ⟨(blk_cell BK311.out 0).trans rfl, (blk_cell BK311.out 1).trans rfl, (blk_cell BK311.out 2).trans rfl, (blk_cell BK311.out 3).trans rfl, (blk_cell BK311.out 4).trans rfl, (blk_cell BK311.out 5).trans rfl, (blk_cell BK311.out 6).trans rfl, (blk_cell BK311.out 7).trans rfl, (blk_cell BK311.out 8).trans rfl, (blk_cell BK311.out 9).trans rfl, (blk_cell BK311.out 10).trans rfl, (blk_cell BK311.out 11).trans rfl, (blk_cell BK325.out 0).trans rfl, (blk_cell BK325.out 1).trans rfl, (blk_cell BK325.out 2).trans rfl, (blk_cell BK325.out 3).trans rfl, (blk_cell BK325.out 4).trans rfl, (blk_cell BK325.out 5).trans rfl, (blk_cell BK325.out 6).trans rfl, (blk_cell BK325.out 7).trans rfl, (blk_cell BK325.out 8).trans rfl, (blk_cell BK325.out 9).trans rfl, (blk_cell BK325.out 10).trans rfl, (blk_cell BK325.out 11).trans rfl, (blk_cell BK286.out 0).trans rfl, (blk_cell BK286.out 1).trans rfl, (blk_cell BK286.out 2).trans rfl, (blk_cell BK286.out 3).trans rfl, (blk_cell BK286.out 4).trans rfl, (blk_cell BK286.out 5).trans rfl, (blk_cell BK286.out 6).trans rfl, (blk_cell BK286.out 7).trans rfl, (blk_cell BK286.out 8).trans rfl, (blk_cell BK286.out 9).trans rfl, (blk_cell BK286.out 10).trans rfl, (blk_cell BK286.out 11).trans rfl⟩ (fun hHeld => ?_)
        clear hK K
        refine norm_ (a' := ?_) ?_ ?_
        rotate_left
        ·show Act.put _ (some 62) _ = _
         simp only [Act.put, List.setIfInBounds_toArray, List.set_cons_zero, List.set_cons_succ, i64_w, i32_w]
         rfl
        refine pure_ (i := 25) (N := some 63) (v := ?_) (a' := ?_) #[true, true, true, true, true, true, true, true, true, true, true, true, true, true, true, true, true, true, true, true, true, true, true, true, true, true, false, false, false, false, false, false, false] rfl rfl (any_of HT_.out (by kernel_rfl)) (fun _ _ _ h => h) (Or.inl ⟨by rfl, ?_⟩) ?_ ?_
        rotate_left
        ·intro w'
         go_simp
         with_reducible rfl
        rotate_left
        ·simp only [Act.put, List.setIfInBounds_toArray, List.set_cons_zero, List.set_cons_succ, i64_w, i32_w]
         rfl
        refine pure_ (i := 26) (N := some 64) (v := ?_) (a' := ?_) #[true, true, true, true, true, true, true, true, true, true, true, true, true, true, true, true, true, true, true, true, true, true, true, true, true, true, true, false, false, false, false, false, false] rfl rfl (any_of HT_.out (by kernel_rfl)) (fun _ _ _ h => h) (Or.inl ⟨by rfl, ?_⟩) ?_ ?_
        rotate_left
        ·intro w'
         go_simp
         with_reducible rfl
        rotate_left
        ·simp only [Act.put, List.setIfInBounds_toArray, List.set_cons_zero, List.set_cons_succ, i64_w, i32_w]
         rfl
        refine pure_ (i := 27) (N := some 65) (v := ?_) (a' := ?_) #[true, true, true, true, true, true, true, true, true, true, true, true, true, true, true, true, true, true, true, true, true, true, true, true, true, true, true, true, false, false, false, false, false] rfl rfl (any_of HT_.out (by kernel_rfl)) (fun _ _ _ h => h) (Or.inl ⟨by rfl, ?_⟩) ?_ ?_
        rotate_left
        ·intro w'
         go_simp
         with_reducible rfl
        rotate_left
        ·simp only [Act.put, List.setIfInBounds_toArray, List.set_cons_zero, List.set_cons_succ, i64_w, i32_w]
         rfl
        refine pure_ (i := 28) (N := some 66) (v := ?_) (a' := ?_) #[true, true, true, true, true, true, true, true, true, true, true, true, true, true, true, true, true, true, true, true, true, true, true, true, true, true, true, true, true, false, false, false, false] rfl rfl (any_of HT_.out (by kernel_rfl)) (fun _ _ _ h => h) (Or.inl ⟨by rfl, ?_⟩) ?_ ?_
        rotate_left
        ·intro w'
         go_simp
         with_reducible rfl
        rotate_left
        ·simp only [Act.put, List.setIfInBounds_toArray, List.set_cons_zero, List.set_cons_succ, i64_w, i32_w]
         rfl
        refine pure_ (i := 29) (N := some 67) (v := ?_) (a' := ?_) #[true, true, true, true, true, true, true, true, true, true, true, true, true, true, true, true, true, true, true, true, true, true, true, true, true, true, true, true, true, true, false, false, false] rfl rfl (any_of HT_.out (by kernel_rfl)) (fun _ _ _ h => h) (Or.inl ⟨by rfl, ?_⟩) ?_ ?_
        rotate_left
        ·intro w'
         go_simp
         with_reducible rfl
        rotate_left
        ·simp only [Act.put, List.setIfInBounds_toArray, List.set_cons_zero, List.set_cons_succ, i64_w, i32_w]
         rfl
        refine one_ (i := 30) (N := some 68) #[true, true, true, true, true, true, true, true, true, true, true, true, true, true, true, true, true, true, true, true, true, true, true, true, true, true, true, true, true, true, true, false, false] rfl rfl (one_of HT_.out (by kernel_rfl)) (by decide) (fun K hK => ?_)
        refine goes_ Try.func13 (by kernel_rfl) rfl #[.slice Ao62 t295.length co62, .slice A1 l1.length c1] (by rfl) rfl rfl (by (try simp only [List.map_toArray, List.map_cons, List.map_nil]); first | done | rfl | (simp only [List.length_drop, List.length_take]; rfl)) ?_
        with_reducible refine (leveeref01_Kept.calls _ _ t295 _ _ l1 true _ ?side1 ?side2 ?side3 ?side4 ?sideT A15.out).mono ?_
        (case sideT => exact ⟨_, _, by (with_reducible repeat (first | apply TQ.Q_alloc | apply TQ.Q_drewN | apply TQ.Q_drew)); exact HO297.out⟩)
        (case side1 => repeat (first | exact (TQ.Q_reads' HO297.out).2.2 | (with_reducible refine Kd.C_alloc ?_ _) | (with_reducible refine Kd.C_drewN ?_ _) | (with_reducible refine Kd.C_drew ?_)))
        (case side2 => exact (TQ.Q_reads' HO297.out).2.1)
        (case side3 => repeat (first | exact (Kd.C_below HR1.out HB.out) | (with_reducible refine Kd.C_alloc ?_ _) | (with_reducible refine Kd.C_drewN ?_ _) | (with_reducible refine Kd.C_drew ?_)))
        (case side4 => exact HC1.out)
        rintro e w79 ⟨rfl, hb⟩
        refine ⟨_, rfl, ?_⟩
        have n0_ := Aside0.mk (Kd.R_below (by (with_reducible repeat (first | apply Kd.R_alloc | apply Kd.R_drewN | apply Kd.R_drew)); exact HO289.out) hb)
        have n1_ := Aside0.mk (Kd.R_below (by (with_reducible repeat (first | apply Kd.R_alloc | apply Kd.R_drewN | apply Kd.R_drew)); exact HO293.out) hb)
        have n2_ := Aside0.mk (TQ.Q_below (by (with_reducible repeat (first | apply TQ.Q_alloc | apply TQ.Q_drewN | apply TQ.Q_drew)); exact HO297.out) hb)
        have n3_ := Aside0.mk (blk_below (g := gb286) (o := .cells #[.int .i64 a0_0, .int .i64 a0_1, .int .i64 a0_2, .int .i64 a0_3, .int .i64 a0_4, .int .i64 a0_5, .int .i64 a0_6, .int .i64 a0_7, .int .i64 a0_8, .int .i64 a0_9, .int .i64 a0_10, .int .i64 a0_11] 24 (0, 0)) (by (with_reducible repeat (first | refine blk_drewN ?_ _ | refine blk_drew ?_ | refine blk_alloc ?_ _)); exact BK286.out) hb)
        have n4_ := Aside0.mk (blk_below (g := gb311) (o := .cells #[.int .i64 t298, .int .i64 t299, .int .i64 t300, .int .i64 t301, .int .i64 t302, .int .i64 t303, .int .i64 t304, .int .i64 t305, .int .i64 t306, .int .i64 t307, .int .i64 t308, .int .i64 t309] 24 (0, 0)) (by (with_reducible repeat (first | refine blk_drewN ?_ _ | refine blk_drew ?_ | refine blk_alloc ?_ _)); exact BK311.out) hb)
        have n5_ := Aside0.mk (blk_below (g := gb325) (o := .cells #[.int .i64 t312, .int .i64 t313, .int .i64 t314, .int .i64 t315, .int .i64 t316, .int .i64 t317, .int .i64 t318, .int .i64 t319, .int .i64 t320, .int .i64 t321, .int .i64 t322, .int .i64 t323] 24 (0, 0)) (by (with_reducible repeat (first | refine blk_drewN ?_ _ | refine blk_drew ?_ | refine blk_alloc ?_ _)); exact BK325.out) hb)
        have n6_ := Aside0.mk (below_step (by repeat (first | (with_reducible first | exact HB.out | apply below_alloc | apply pw_below_drewN | apply below_drew1 | refine below_set ?_ GE286.out | refine below_set ?_ GE311.out | refine below_set ?_ GE325.out) | exact HB.out)) hb)
        clear HO289
        clear HO293
        clear HO297
        clear BK286
        clear BK311
        clear BK325
        clear HB
        have HO289 := n0_
        have HO293 := n1_
        have HO297 := n2_
        have BK286 := n3_
        have BK311 := n4_
        have BK325 := n5_
        have HB := n6_
        clear n0_ n1_ n2_ n3_ n4_ n5_ n6_
        (try clear hb)
        (try clear hb2)
        (try clear hk)
        (try clear hi)
        refine hK.out _ _ ⟨(blk_cell BK311.out 0).trans rfl, (blk_cell BK311.out 1).trans rfl, (blk_cell BK311.out 2).trans rfl, (blk_cell BK311.out 3).trans rfl, (blk_cell BK311.out 4).trans rfl, (blk_cell BK311.out 5).trans rfl, (blk_cell BK311.out 6).trans rfl, (blk_cell BK311.out 7).trans rfl, (blk_cell BK311.out 8).trans rfl, (blk_cell BK311.out 9).trans rfl, (blk_cell BK311.out 10).trans rfl, (blk_cell BK311.out 11).trans rfl, (blk_cell BK325.out 0).trans rfl, (blk_cell BK325.out 1).trans rfl, (blk_cell BK325.out 2).trans rfl, (blk_cell BK325.out 3).trans rfl, (blk_cell BK325.out 4).trans rfl, (blk_cell BK325.out 5).trans rfl, (blk_cell BK325.out 6).trans rfl, (blk_cell BK325.out 7).trans rfl, (blk_cell BK325.out 8).trans rfl, (blk_cell BK325.out 9).trans rfl, (blk_cell BK325.out 10).trans rfl, (blk_cell BK325.out 11).trans rfl, (blk_cell BK286.out 0).trans rfl, (blk_cell BK286.out 1).trans rfl, (blk_cell BK286.out 2).trans rfl, (blk_cell BK286.out 3).trans rfl, (blk_cell BK286.out 4).trans rfl, (blk_cell BK286.out 5).trans rfl, (blk_cell BK286.out 6).trans rfl, (blk_cell BK286.out 7).trans rfl, (blk_cell BK286.out 8).trans rfl, (blk_cell BK286.out 9).trans rfl, (blk_cell BK286.out 10).trans rfl, (blk_cell BK286.out 11).trans rfl⟩ (fun hHeld => ?_)
        clear hK K
        refine norm_ (a' := ?_) ?_ ?_
        rotate_left
        ·show Act.put _ (some 68) _ = _
         simp only [Act.put, List.setIfInBounds_toArray, List.set_cons_zero, List.set_cons_succ, i64_w, i32_w]
         rfl
        refine pure_ (i := 31) (N := some 69) (v := ?_) (a' := ?_) #[true, true, true, true, true, true, true, true, true, true, true, true, true, true, true, true, true, true, true, true, true, true, true, true, true, true, true, true, true, true, true, true, false] rfl rfl (any_of HT_.out (by kernel_rfl)) (fun _ _ _ h => h) (Or.inl ⟨by rfl, ?_⟩) ?_ ?_
        rotate_left
        ·intro w'
         go_simp
         with_reducible rfl
        rotate_left
        ·simp only [Act.put, List.setIfInBounds_toArray, List.set_cons_zero, List.set_cons_succ, i64_w, i32_w]
         rfl
        refine pure_ (i := 32) (N := some 70) (v := ?_) (a' := ?_) #[true, true, true, true, true, true, true, true, true, true, true, true, true, true, true, true, true, true, true, true, true, true, true, true, true, true, true, true, true, true, true, true, true] rfl rfl (any_of HT_.out (by kernel_rfl)) (fun _ _ _ h => h) (Or.inl ⟨by rfl, ?_⟩) ?_ ?_
        rotate_left
        ·intro w'
         go_simp
         with_reducible rfl
        rotate_left
        ·simp only [Act.put, List.setIfInBounds_toArray, List.set_cons_zero, List.set_cons_succ, i64_w, i32_w]
         rfl
        refine done_ (done_of HT_.out (by kernel_rfl)) ?_
        try go_wp2_with (first | ((with_reducible refine gate_callee (f := 14) rfl ?_); refine goesL_ (some 73) rfl rfl Try.func14 (by kernel_rfl) rfl #[] rfl (by (try simp only [List.map_toArray, List.map_cons, List.map_nil]); first | done | rfl | (simp only [List.length_drop, List.length_take]; rfl)) ?_; (with_reducible refine (leveelaw07_known.calls k  t344 _ A55.out).mono ?_); rintro e w80 ⟨rfl, hb⟩; refine ⟨_, rfl, ?_⟩; have n0_ := Aside0.mk (Kd.R_below (by (with_reducible repeat (first | apply Kd.R_alloc | apply Kd.R_drewN | apply Kd.R_drew)); exact HO289.out) hb); have n1_ := Aside0.mk (Kd.R_below (by (with_reducible repeat (first | apply Kd.R_alloc | apply Kd.R_drewN | apply Kd.R_drew)); exact HO293.out) hb); have n2_ := Aside0.mk (TQ.Q_below (by (with_reducible repeat (first | apply TQ.Q_alloc | apply TQ.Q_drewN | apply TQ.Q_drew)); exact HO297.out) hb); have n3_ := Aside0.mk (blk_below (g := gb286) (o := .cells #[.int .i64 a0_0, .int .i64 a0_1, .int .i64 a0_2, .int .i64 a0_3, .int .i64 a0_4, .int .i64 a0_5, .int .i64 a0_6, .int .i64 a0_7, .int .i64 a0_8, .int .i64 a0_9, .int .i64 a0_10, .int .i64 a0_11] 24 (0, 0)) (by (with_reducible repeat (first | refine blk_drewN ?_ _ | refine blk_drew ?_ | refine blk_alloc ?_ _)); exact BK286.out) hb); have n4_ := Aside0.mk (blk_below (g := gb311) (o := .cells #[.int .i64 t298, .int .i64 t299, .int .i64 t300, .int .i64 t301, .int .i64 t302, .int .i64 t303, .int .i64 t304, .int .i64 t305, .int .i64 t306, .int .i64 t307, .int .i64 t308, .int .i64 t309] 24 (0, 0)) (by (with_reducible repeat (first | refine blk_drewN ?_ _ | refine blk_drew ?_ | refine blk_alloc ?_ _)); exact BK311.out) hb); have n5_ := Aside0.mk (blk_below (g := gb325) (o := .cells #[.int .i64 t312, .int .i64 t313, .int .i64 t314, .int .i64 t315, .int .i64 t316, .int .i64 t317, .int .i64 t318, .int .i64 t319, .int .i64 t320, .int .i64 t321, .int .i64 t322, .int .i64 t323] 24 (0, 0)) (by (with_reducible repeat (first | refine blk_drewN ?_ _ | refine blk_drew ?_ | refine blk_alloc ?_ _)); exact BK325.out) hb); have n6_ := Aside0.mk (below_step (by repeat (first | (with_reducible first | exact HB.out | apply below_alloc | apply pw_below_drewN | apply below_drew1 | refine below_set ?_ GE286.out | refine below_set ?_ GE311.out | refine below_set ?_ GE325.out) | exact HB.out)) hb); clear HO289; clear HO293; clear HO297; clear BK286; clear BK311; clear BK325; clear HB; have HO289 := n0_; have HO293 := n1_; have HO297 := n2_; have BK286 := n3_; have BK311 := n4_; have BK325 := n5_; have HB := n6_; clear n0_ n1_ n2_ n3_ n4_ n5_ n6_; (try clear hb); (try clear hb2); (try clear hk); (try clear hi)))
        go_ret
        exact ⟨by first | rfl | (simp [errW_none, errW_some] <;> rfl) | (simp [*, errW_none, errW_some] <;> rfl), by repeat (first | (with_reducible first | exact HB.out | apply below_alloc | apply pw_below_drewN | apply below_drew1 | refine below_set ?_ GE286.out | refine below_set ?_ GE311.out | refine below_set ?_ GE325.out) | exact HB.out)⟩
      ·replace c16 := Bool.eq_false_iff.mpr c16
       subst c16
       have H1 : (none) = some r := by rw [if_neg (show ¬ (false = true) by decide)] at H; exact H
       clear H
       have H := H1
       clear H1
       exact absurd H (by simp)
    ·rw [if_neg c11] at H
     exact absurd H (by simp)
  ·rw [if_neg c9] at H
   exact absurd H (by simp)
 ·rw [if_neg c8] at H
  exact absurd H (by simp)

end Go.Proofs.Ythcndfnmgggblaa.P
