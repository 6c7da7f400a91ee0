/-
The contract of leveelaw01.known, proved by hand: whatever the world, it tells true.
Conditions: none.
-/
import Derived.Test.YtmdbbnapljmboaaProg
import Derived.Below
import Derived.Deep.Draws
import Derived.Deep.AppendLies
import Derived.Maps.AppendAt
import Derived.OwnWalk
import Derived.Laws.BytesArg
import Derived.Laws.MakeOwn
import Derived.Laws.OwnMore
import Derived.Deep.OwnRows
import Derived.Tactics
import Derived.Lib.ConvBytes
import Derived.Laws.Slices
import Derived.WalkKit
import Derived.KernelRfl
import Derived.RowKit3
import Derived.Deep.LoopGhost
import Derived.Deep.QuietTactic
import Derived.BigQuiet
import Derived.WideLaws
import Derived.Deep.DeepCutAuto
import Derived.Deep.CutBlock
import Derived.Deep.RegionHeld3
import Derived.Laws.Rows
import Derived.Lib.AppendStr
import Derived.ArgAppend
import Derived.Laws.IdiomCopy
import Derived.OrdersHeld
import Derived.Laws.BitsLemmas
import Derived.RowKit
import Derived.Test.YtmdbbnapljmboaaWWords
import Derived.Test.YtmdbbnapljmboaaWLast
import Derived.Test.YtmdbbnapljmboaaWTab
import Derived.Test.YtmdbbnapljmboaaWFour
import Derived.Test.YtmdbbnapljmboaaWQPut
import Derived.Test.YtmdbbnapljmboaaWApart
import Derived.Test.YtmdbbnapljmboaaWArr
import Derived.Test.YtmdbbnapljmboaaWZeros
import Derived.Test.YtmdbbnapljmboaaWFoot
import Derived.Test.YtmdbbnapljmboaaWKept
import Derived.Test.YtmdbbnapljmboaaWShare
import Derived.Test.YtmdbbnapljmboaaWN
import Derived.Test.YtmdbbnapljmboaaWFootNe
import Derived.Test.YtmdbbnapljmboaaWAt
import Derived.Test.YtmdbbnapljmboaaWEqStruct
import Derived.Test.YtmdbbnapljmboaaWRepsOne
import Derived.Test.YtmdbbnapljmboaaWInv
import Derived.Test.YtmdbbnapljmboaaWInvWords
import Derived.Test.YtmdbbnapljmboaaWGuard
import Derived.Test.YtmdbbnapljmboaaWNEv
import Derived.Test.YtmdbbnapljmboaaWMore
import Derived.Lib.SlBytesConst
import Derived.Test.YtmdbbnapljmboaaHand
import Derived.Test.YtmdbbnapljmboaaPx1
import Derived.Test.YtmdbbnapljmboaaPx1
import Derived.Test.YtmdbbnapljmboaaPx1
namespace Go.Proofs.Ytmdbbnapljmboaa.P
open Go.RowKit Go.Proofs.YtmdbbnapljmboaaW.PrintWords Go.Proofs.YtmdbbnapljmboaaW.PrintLast Go.Proofs.YtmdbbnapljmboaaW.PrintMore
attribute [local go_sem] max2_int min2_int max_two min_two max_three min_three max_four min_four
set_option linter.unusedVariables false
set_option linter.unusedSimpArgs false
theorem C_of_block {w : World} {g : Nat} {k : IntKind} {e : TypeId} {fr : Nat × Nat} {xs : List Int} (h : w.heap[g]? = some (.cells (nums k xs).toArray e fr)) (hl : xs.length ≤ 9223372036854775807) : Kd.C (Kd.int k) w (some ⟨g, 0, none⟩) xs.length xs := by
  refine Kd.C_of_reads (d := (0 : Int)) (h1 := fun _ => rfl) ⟨rfl, hl, fun hp => ⟨_, rfl, fun j hj => ?_⟩⟩
  rw [add_plain, cell_of_row w g j _ _ _ h]
  simp [nums, List.getD_eq_getElem?_getD, List.getElem?_eq_getElem hj]
theorem bt {w w1 w2 : World} (h : Below w.heap.size w w1) (k : Below w1.heap.size w1 w2) : Below w.heap.size w w2 := below_then h h.size k
theorem size_alloc1 (w : World) {o : Obj} : (w.alloc o).heap.size = w.heap.size + 1 := by simp
theorem below_of2 {w w' : World} {o1 o2 : Obj} (h : Below ((w.alloc o1).alloc o2).heap.size ((w.alloc o1).alloc o2) w') : Below w.heap.size w w' := below_then (below_alloc (below_alloc (Below.refl _ _) _) _) (by simp; omega) h
theorem C_string_of_R {w : World} {base : Nat} {ok : Nat → Prop} {A : Option Addr} {n c : Nat} {xs : List Int} (h : Kd.R (Kd.int .u8) 5 w base ok (.slice A n c) xs) : (convert 23 9 (.slice A n c)).run Try.prog w = .ok (.string (strOfNums xs)) w := by
  obtain ⟨h1, h2, h3⟩ := Kd.R_reads' h
  rw [h1]
  exact Kd.C_string Try.underlying23 Try.underlying5 Try.underlying9 h3
def leveelaw01_known.f : Option Bool := some true
set_option maxRecDepth 100000 in
theorem leveelaw01_known.calls (r : Bool) (w : World) (h : leveelaw01_known.f = some r) :
    Calls Try.prog 9 #[] w fun e w' => e = .returned (.bool r) ∧ Below w.heap.size w w' := by
  obtain rfl := Option.some.inj h
  clear h
  have kc := fun (w : World) (C : Array Value) (n c : Nat) => Lib.run_convert_bytes_const (P := Try.prog) w 23 5 C n c Try.underlying23 Try.underlying5
  have kc2 : ∀ (w : World) (o : Obj) (C : Array Value) (n c : Nat), (convert 23 23 (.slice (some ⟨w.heap.size + 1, 0, none⟩) n c)).run Try.prog ((w.alloc o).alloc (.cells C 5)) = .ok (.slice (some ⟨w.heap.size + 1, 0, none⟩) n c) ((w.alloc o).alloc (.cells C 5 (C.size, C.size + 1))) := by
    intro w o C n c
    have := kc (w.alloc o) C n c
    rwa [show (w.alloc o).heap.size = w.heap.size + 1 by simp] at this
  have p1 : num_Put.f 5 [9, 9] 258 = some [2, 1] := by kernel_rfl
  have P1 := Aside0.mk p1
  clear p1
  have p2 : num_Diff.f 9 [97, 98, 99, 100] [97, 120, 99, 121] = some (1, 4) := by kernel_rfl
  have P2 := Aside0.mk p2
  clear p2
  have p3 : num_Get.f 5 [2, 1] = some 258 := by kernel_rfl
  have P3 := Aside0.mk p3
  clear p3
  have p4 : num_Sum.f [49, 50, 51, 52, 53, 54, 55, 56, 57] = some 3421780262 := by kernel_rfl
  have P4 := Aside0.mk p4
  clear p4
  have st : ((strOfNums [2, 1]).toList == ([2, 1] : List UInt8)) = true := by decide +kernel
  go_enter Try.func9, Try.ntmps9
  go_wp2_with (first
    | (go_at_call 7; refine (num_Put.calls 5 (fun _ => True) _ [9, 9] 258 [2, 1] w _ ?b1 ?o1 P1.out).mono ?_; rotate_right; rintro e w2 ⟨rfl, ho, hb, _⟩; have HO := Aside0.mk ho; have HB := Aside0.mk hb; clear ho hb)
    | (go_at_call 21; refine (num_Diff.calls 9 (some ⟨w2.heap.size, 0, none⟩) 4 [97, 98, 99, 100] (some ⟨w2.heap.size + 1, 0, none⟩) 4 [97, 120, 99, 121] 1 4 _ ?c1 (Nat.le_refl _) ?c2 (Nat.le_refl _) P2.out).mono ?_; rotate_right; rintro e w3 ⟨rfl, hb⟩; have HB3 := Aside0.mk hb; clear hb; have hcv := C_string_of_R (Kd.R_below HO.out (below_of2 HB3.out)))
    | (go_at_call 8; refine (num_Get.calls 5 _ _ [2, 1] 258 _ (Kd.R_reads' (Kd.R_below HO.out (below_of2 HB3.out))).2.2 (Nat.le_refl _) P3.out).mono ?_; rintro e w4 ⟨rfl, hb⟩; have HB4 := Aside0.mk hb; clear hb)
    | (go_at_call 11; refine (num_Sum.calls _ _ [49, 50, 51, 52, 53, 54, 55, 56, 57] 3421780262 _ ?d1 ?d2 P4.out).mono ?_; rotate_right; rintro e w5 ⟨rfl, hb⟩; have HB5 := Aside0.mk hb; clear hb))
  case d1 => exact C_of_block (k := .u8) (xs := [49, 50, 51, 52, 53, 54, 55, 56, 57]) (heap_alloc_new _ _) (by decide)
  case d2 => exact Nat.le_refl _
  case c1 => exact C_of_block (k := .u8) (xs := [97, 98, 99, 100]) (blk_alloc (heap_alloc_new _ _) _) (by decide)
  case c2 => exact C_of_block (k := .u8) (xs := [97, 120, 99, 121]) (by rw [← size_alloc1 w2]; exact heap_alloc_new _ _) (by decide)
  case b1 => exact below_alloc (Below.refl _ _) _
  case o1 => exact R_of_block (k := .u8) (xs := [9, 9]) (cur := [.int .u8 9, .int .u8 9]) (heap_alloc_new _ _) (Nat.le_refl _) rfl (by decide) trivial
  go_ret
  exact ⟨rfl, bt (below_alloc (bt (bt (below_alloc (below_alloc HB.out _) _) HB3.out) HB4.out) _) HB5.out⟩
end Go.Proofs.Ytmdbbnapljmboaa.P
