/-
The contracts of package inode's functions that write arrays, by hand.
Conditions: none.
-/
import Derived.Test.YthcndfnmgggblaaProg
import Derived.Below
import Derived.Deep.Draws
import Derived.Deep.AppendLies
import Derived.Maps.AppendAt
import Derived.OwnWalk
import Derived.Laws.BytesArg
import Derived.Laws.MakeOwn
import Derived.Laws.OwnMore
import Derived.Deep.OwnRows
import Derived.Tactics
import Derived.Lib.ConvBytes
import Derived.Laws.Slices
import Derived.WalkKit
import Derived.KernelRfl
import Derived.RowKit3
import Derived.Deep.LoopGhost
import Derived.Deep.QuietTactic
import Derived.BigQuiet
import Derived.WideLaws
import Derived.Deep.DeepCutAuto
import Derived.Deep.CutBlock
import Derived.Deep.RegionHeld3
import Derived.Laws.Rows
import Derived.Lib.AppendStr
import Derived.ArgAppend
import Derived.Laws.IdiomCopy
import Derived.OrdersHeld
import Derived.Laws.BitsLemmas
import Derived.RowKit
import Derived.Test.YthcndfnmgggblaaWWords
import Derived.Test.YthcndfnmgggblaaWLast
import Derived.Test.YthcndfnmgggblaaWTab
import Derived.Test.YthcndfnmgggblaaWFour
import Derived.Test.YthcndfnmgggblaaWQPut
import Derived.Test.YthcndfnmgggblaaWApart
import Derived.Test.YthcndfnmgggblaaWArr
import Derived.Test.YthcndfnmgggblaaWZeros
import Derived.Test.YthcndfnmgggblaaWFoot
import Derived.Test.YthcndfnmgggblaaWKept
import Derived.Test.YthcndfnmgggblaaWShare
import Derived.Test.YthcndfnmgggblaaWN
import Derived.Test.YthcndfnmgggblaaWFootNe
import Derived.Test.YthcndfnmgggblaaWAt
import Derived.Test.YthcndfnmgggblaaWEqStruct
import Derived.Test.YthcndfnmgggblaaWRepsOne
import Derived.Test.YthcndfnmgggblaaWInv
import Derived.Test.YthcndfnmgggblaaWInvWords
import Derived.Test.YthcndfnmgggblaaWGuard
import Derived.Test.YthcndfnmgggblaaWNEv
import Derived.Test.YthcndfnmgggblaaWMore
import Derived.Laws.CopyOwn
import Derived.StillTailTactics
import Derived.Test.YthcndfnmgggblaaHand
namespace Go.Proofs.Ythcndfnmgggblaa.P
open Go.RowKit Go.Proofs.YthcndfnmgggblaaW.PrintWords Go.Proofs.YthcndfnmgggblaaW.PrintLast Go.Proofs.YthcndfnmgggblaaW.PrintMore
attribute [local go_sem] max2_int min2_int max_two min_two max_three min_three max_four min_four
set_option linter.unusedVariables false
set_option linter.unusedSimpArgs false
set_option maxRecDepth 100000 in
theorem all_any (a0 a1 a2 a3 a4 a5 a6 a7 a8 a9 a10 a11 : Int) (w : World) :
    Calls Try.prog 28 #[.agg #[.int .i64 a0, .int .i64 a1, .int .i64 a2, .int .i64 a3, .int .i64 a4, .int .i64 a5, .int .i64 a6, .int .i64 a7, .int .i64 a8, .int .i64 a9, .int .i64 a10, .int .i64 a11]] w fun e w' => e = .returned (.agg #[.int .i64 a4, .int .i64 a5, .int .i64 a6, .int .i64 a7, .int .i64 a8, .int .i64 a9, .int .i64 a10, .int .i64 a11]) ∧ Below w.heap.size w w' := by
  have hsz1 : (Try.prog.info? 3).map (·.size) = some 1 := by kernel_rfl
  go_enter Try.func28, Try.ntmps28
  go_wp2_with (first
    | ((with_reducible refine gate_dst (N := 1) rfl ?_); refine box_event ?hg (N := 1) ?hd (cs := #[.int .i64 a0, .int .i64 a1, .int .i64 a2, .int .i64 a3, .int .i64 a4, .int .i64 a5, .int .i64 a6, .int .i64 a7, .int .i64 a8, .int .i64 a9, .int .i64 a10, .int .i64 a11]) (t := 24) ?hr ?_; (case hd => rfl); (case hg => rfl); (case hr => first | (go_simp; done) | (go_simp; rfl)); intro g1 hg1 w1 hx1 hb1; have HX1 := Aside0.mk hx1; have HB1 := Aside0.mk hb1; have HG1 := Aside0.mk hg1; clear hx1 hb1 hg1)
    | ((with_reducible refine gate_dst (N := 2) rfl ?_); refine box_event ?hg (N := 2) ?hd (cs := #[.int .i64 0, .int .i64 0, .int .i64 0, .int .i64 0, .int .i64 0, .int .i64 0, .int .i64 0, .int .i64 0]) (t := 49) ?hr ?_; (case hd => rfl); (case hg => rfl); (case hr => first | (go_simp; done) | (go_simp; rfl)); intro g2 hg2 w2 hx2 hb2; have HX2 := Aside0.mk hx2; have HB2 := Aside0.mk hb2; have HG2 := Aside0.mk hg2; clear hx2 hb2 hg2)
    | ((with_reducible refine gate_dst (N := 3) rfl ?_); refine box_event ?hg (N := 3) ?hd (cs := #[.int .i64 0, .int .i64 0, .int .i64 0, .int .i64 0, .int .i64 0, .int .i64 0, .int .i64 0, .int .i64 0]) (t := 49) ?hr ?_; (case hd => rfl); (case hg => rfl); (case hr => first | (go_simp; done) | (go_simp; rfl)); intro g3 hg3 w3 hx3 hb3; have HX3 := Aside0.mk hx3; have HB3 := Aside0.mk hb3; have HG3 := Aside0.mk hg3; clear hx3 hb3 hg3))
  have l12 : g1 < g2 := by have := blk_lt HX1.out; have := HG2.out; omega
  have l23 : g2 < g3 := by have := blk_lt HX2.out; have := HG3.out; omega
  have l01 := HG1.out
  have b3 := Aside0.mk (below_step (below_step HB1.out HB2.out) HB3.out)
  have y1 := blk_below (blk_below HX1.out HB2.out) HB3.out
  have y2 := blk_below HX2.out HB3.out
  have y3 := HX3.out
  have L := Aside0.mk (And.intro l12 (And.intro l23 l01))
  clear HX1 HX2 HX3 HB1 HB2 HB3 HG1 HG2 HG3 l12 l23 l01
  refine wp_region_still_tail 3 (by kernel_rfl) (by kernel_rfl) ?_
  change wpStill _ _ w3.drew (fun a' => wpList _ _ _ _ a' w3.drew) _ _
  obtain ⟨w4, hw4⟩ : ∃ w4, w4 = w3.drew := ⟨_, rfl⟩
  have x1 := blk_drew y1
  rw [← hw4] at x1
  have x2 := blk_drew y2
  rw [← hw4] at x2
  have x3 := blk_drew y3
  rw [← hw4] at x3
  have b4 : Aside0 (Below w.heap.size w w4) := ⟨by rw [hw4]; exact below_drew b3.out⟩
  rw [← hw4]
  clear hw4 b3 y1 y2 y3
  have X1 := Aside0.mk x1
  have X2 := Aside0.mk x2
  have X3 := Aside0.mk x3
  clear x1 x2 x3
  simp only [List.take_succ_cons, List.take_zero, List.drop_succ_cons, List.drop_zero]
  iterate 3 still_step
  refine wpStill_nil ?_
  refine wpList_copy_splice rfl (.tmp 4) (.tmp 6) 44 44 rfl 3 Try.underlying44 hsz1 (some ⟨g3, 0, none⟩) (some ⟨g1, 4, none⟩) 8 8 6 6 rfl rfl g3 0 (List.replicate 8 (.int .i64 0)) 49 X3.out [.int .i64 a4, .int .i64 a5, .int .i64 a6, .int .i64 a7, .int .i64 a8, .int .i64 a9] rfl ?hpos (by simp) ?h1 g3 w4 (Below.refl _ _) (Nat.le_refl _) ?_
  rotate_right
  intro w5 HG5 HB5
  have z3 := HG5.out
  have z1 := (HB5.block g1 (by have := L.out; omega)).trans X1.out
  have z2 := (HB5.block g2 (by have := L.out; omega)).trans X2.out
  have b5 := Aside0.mk (below_weaken b4.out (show w.heap.size ≤ g3 by have := L.out; omega) HB5)
  have hS : splice (List.replicate 8 (Value.int .i64 0)) 0 [.int .i64 a4, .int .i64 a5, .int .i64 a6, .int .i64 a7, .int .i64 a8, .int .i64 a9] = [.int .i64 a4, .int .i64 a5, .int .i64 a6, .int .i64 a7, .int .i64 a8, .int .i64 a9, .int .i64 0, .int .i64 0] := rfl
  rw [hS] at z3
  clear HB5 X1 X2 X3 b4 hS HG5
  have c10 : w5.cell? ⟨g1, 10, none⟩ = some (.int .i64 a10) := (blk_cell z1 10).trans rfl
  have c11 : w5.cell? ⟨g1, 11, none⟩ = some (.int .i64 a11) := (blk_cell z1 11).trans rfl
  have d6 : w5.cell? ⟨g3, 6, none⟩ = some (.int .i64 0) := (blk_cell z3 6).trans rfl
  have f6 := blk_frozen z3 6
  have Z1 := Aside0.mk z1
  have Z2 := Aside0.mk z2
  have Z3 := Aside0.mk z3
  clear z1 z2 z3
  have l3 := Aside0.mk (show w.heap.size ≤ g3 by have := L.out; omega)
  have l2 := Aside0.mk (show w.heap.size ≤ g2 by have := L.out; omega)
  have n13 := Aside0.mk (show g1 ≠ g3 by have := L.out; omega)
  have n23 := Aside0.mk (show g2 ≠ g3 by have := L.out; omega)
  case hpos =>
    intro _
    refine ⟨rfl, _, rfl, fun j v hj => ?_⟩
    have h12 := blk_cell X1.out (4 + j)
    rw [show (⟨g1, 4, none⟩ : Addr).add j = ⟨g1, 4 + j, none⟩ from by simp [Addr.add]]
    refine h12.trans ?_
    clear h12
    rw [Nat.add_comm]
    rcases j with _ | _ | _ | _ | _ | _ | j
    · exact hj
    · exact hj
    · exact hj
    · exact hj
    · exact hj
    · exact hj
    · cases hj
  case h1 => intro v hv; simp at hv; rcases hv with rfl | rfl | rfl | rfl | rfl | rfl <;> rfl
  go_wp2_with (first
    | (refine gate_store (t := 3) (p := 12) rfl ?_; refine store_event (t := 3) (p := 12) (v := .tmp 9) (w1 := w5.setCell ⟨g3, 6, none⟩ (.int .i64 a10)) ?hg ?ho ?hn ?hr ?_; (case ho => rfl); (case hg => rfl); (case hn => rfl); (case hr => first | (go_simp; done) | (go_simp; rfl)); intro w6 hw6; have y3 := blk_put Z3.out 6 (.int .i64 a10) rfl; have y2 := (Below.heap_setCell w5 ⟨g3, 6, none⟩ (.int .i64 a10) g2 n23.out).trans Z2.out; have y0 := below_set (j := 6) (v := .int .i64 a10) b5.out l3.out; rw [← hw6] at y3 y2 y0; clear hw6; have d7 : w6.cell? ⟨g3, 7, none⟩ = some (.int .i64 0) := (blk_cell y3 7).trans rfl; have f7 := blk_frozen y3 7; have Y3 := Aside0.mk y3; have Y2 := Aside0.mk y2; have Y0 := Aside0.mk y0; clear y3 y2 y0)
    | (refine gate_store (t := 3) (p := 13) rfl ?_; refine store_event (t := 3) (p := 13) (v := .tmp 11) (w1 := w6.setCell ⟨g3, 7, none⟩ (.int .i64 a11)) ?hg ?ho ?hn ?hr ?_; (case ho => rfl); (case hg => rfl); (case hn => rfl); (case hr => first | (go_simp; done) | (go_simp; rfl)); intro w7 hw7; have x3 := blk_put Y3.out 7 (.int .i64 a11) rfl; have x2 := (Below.heap_setCell w6 ⟨g3, 7, none⟩ (.int .i64 a11) g2 n23.out).trans Y2.out; have x0 := below_set (j := 7) (v := .int .i64 a11) Y0.out l3.out; rw [← hw7] at x3 x2 x0; clear hw7
       have q0 : w7.cell? ⟨g3, 0, none⟩ = some (.int .i64 a4) := (blk_cell x3 0).trans rfl
       have q1 : w7.cell? ⟨g3, 1, none⟩ = some (.int .i64 a5) := (blk_cell x3 1).trans rfl
       have q2 : w7.cell? ⟨g3, 2, none⟩ = some (.int .i64 a6) := (blk_cell x3 2).trans rfl
       have q3 : w7.cell? ⟨g3, 3, none⟩ = some (.int .i64 a7) := (blk_cell x3 3).trans rfl
       have q4 : w7.cell? ⟨g3, 4, none⟩ = some (.int .i64 a8) := (blk_cell x3 4).trans rfl
       have q5 : w7.cell? ⟨g3, 5, none⟩ = some (.int .i64 a9) := (blk_cell x3 5).trans rfl
       have q6 : w7.cell? ⟨g3, 6, none⟩ = some (.int .i64 a10) := (blk_cell x3 6).trans rfl
       have q7 : w7.cell? ⟨g3, 7, none⟩ = some (.int .i64 a11) := (blk_cell x3 7).trans rfl
       have p0 : w7.cell? ⟨g2, 0, none⟩ = some (.int .i64 0) := (blk_cell x2 0).trans rfl
       have e0 := blk_frozen x2 0
       have p1 : w7.cell? ⟨g2, 1, none⟩ = some (.int .i64 0) := (blk_cell x2 1).trans rfl
       have e1 := blk_frozen x2 1
       have p2 : w7.cell? ⟨g2, 2, none⟩ = some (.int .i64 0) := (blk_cell x2 2).trans rfl
       have e2 := blk_frozen x2 2
       have p3 : w7.cell? ⟨g2, 3, none⟩ = some (.int .i64 0) := (blk_cell x2 3).trans rfl
       have e3 := blk_frozen x2 3
       have p4 : w7.cell? ⟨g2, 4, none⟩ = some (.int .i64 0) := (blk_cell x2 4).trans rfl
       have e4 := blk_frozen x2 4
       have p5 : w7.cell? ⟨g2, 5, none⟩ = some (.int .i64 0) := (blk_cell x2 5).trans rfl
       have e5 := blk_frozen x2 5
       have p6 : w7.cell? ⟨g2, 6, none⟩ = some (.int .i64 0) := (blk_cell x2 6).trans rfl
       have e6 := blk_frozen x2 6
       have p7 : w7.cell? ⟨g2, 7, none⟩ = some (.int .i64 0) := (blk_cell x2 7).trans rfl
       have e7 := blk_frozen x2 7
       have X2 := Aside0.mk x2; have X0 := Aside0.mk x0
       clear x3 x2 x0)
    )
  refine bodyPost_ret (results_cell_row rfl _ _ g2 49 #[.int .i64 a4, .int .i64 a5, .int .i64 a6, .int .i64 a7, .int .i64 a8, .int .i64 a9, .int .i64 a10, .int .i64 a11] (0, 0) _ rfl ?hbk Try.underlying49 rfl (by kernel_rfl)) rfl ?_
  case hbk =>
    refine blk_put (cs := #[.int .i64 a4, .int .i64 a5, .int .i64 a6, .int .i64 a7, .int .i64 a8, .int .i64 a9, .int .i64 a10, .int .i64 0]) ?_ 7 _ rfl
    refine blk_put (cs := #[.int .i64 a4, .int .i64 a5, .int .i64 a6, .int .i64 a7, .int .i64 a8, .int .i64 a9, .int .i64 0, .int .i64 0]) ?_ 6 _ rfl
    refine blk_put (cs := #[.int .i64 a4, .int .i64 a5, .int .i64 a6, .int .i64 a7, .int .i64 a8, .int .i64 0, .int .i64 0, .int .i64 0]) ?_ 5 _ rfl
    refine blk_put (cs := #[.int .i64 a4, .int .i64 a5, .int .i64 a6, .int .i64 a7, .int .i64 0, .int .i64 0, .int .i64 0, .int .i64 0]) ?_ 4 _ rfl
    refine blk_put (cs := #[.int .i64 a4, .int .i64 a5, .int .i64 a6, .int .i64 0, .int .i64 0, .int .i64 0, .int .i64 0, .int .i64 0]) ?_ 3 _ rfl
    refine blk_put (cs := #[.int .i64 a4, .int .i64 a5, .int .i64 0, .int .i64 0, .int .i64 0, .int .i64 0, .int .i64 0, .int .i64 0]) ?_ 2 _ rfl
    refine blk_put (cs := #[.int .i64 a4, .int .i64 0, .int .i64 0, .int .i64 0, .int .i64 0, .int .i64 0, .int .i64 0, .int .i64 0]) ?_ 1 _ rfl
    refine blk_put (cs := #[.int .i64 0, .int .i64 0, .int .i64 0, .int .i64 0, .int .i64 0, .int .i64 0, .int .i64 0, .int .i64 0]) ?_ 0 _ rfl
    exact X2.out
  refine ⟨rfl, ?_⟩
  repeat (with_reducible refine below_set ?_ l2.out)
  exact X0.out
def inode_all.f (a0_0 a0_1 a0_2 a0_3 a0_4 a0_5 a0_6 a0_7 a0_8 a0_9 a0_10 a0_11 : Int) : Option (Int × Int × Int × Int × Int × Int × Int × Int) := some (a0_4, a0_5, a0_6, a0_7, a0_8, a0_9, a0_10, a0_11)
theorem inode_all.calls (a0_0 a0_1 a0_2 a0_3 a0_4 a0_5 a0_6 a0_7 a0_8 a0_9 a0_10 a0_11 : Int) (r1 r2 r3 r4 r5 r6 r7 r8 : Int) (w : World) (h : inode_all.f a0_0 a0_1 a0_2 a0_3 a0_4 a0_5 a0_6 a0_7 a0_8 a0_9 a0_10 a0_11 = some (r1, r2, r3, r4, r5, r6, r7, r8)) :
    Calls Try.prog 28 #[.agg #[.int .i64 a0_0, .int .i64 a0_1, .int .i64 a0_2, .int .i64 a0_3, .int .i64 a0_4, .int .i64 a0_5, .int .i64 a0_6, .int .i64 a0_7, .int .i64 a0_8, .int .i64 a0_9, .int .i64 a0_10, .int .i64 a0_11]] w fun e w' => e = .returned (.agg #[.int .i64 r1, .int .i64 r2, .int .i64 r3, .int .i64 r4, .int .i64 r5, .int .i64 r6, .int .i64 r7, .int .i64 r8]) ∧ Below w.heap.size w w' := by
  unfold inode_all.f at h
  injection h with h
  injection h with h1 h
  injection h with h2 h
  injection h with h3 h
  injection h with h4 h
  injection h with h5 h
  injection h with h6 h
  injection h with h7 h8
  subst h1 h2 h3 h4 h5 h6 h7 h8
  exact all_any a0_0 a0_1 a0_2 a0_3 a0_4 a0_5 a0_6 a0_7 a0_8 a0_9 a0_10 a0_11 w
end Go.Proofs.Ythcndfnmgggblaa.P
