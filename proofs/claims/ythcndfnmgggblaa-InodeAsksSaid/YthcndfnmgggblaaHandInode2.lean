/-
The contracts of package inode's functions that write arrays, by hand: over the print's.
Conditions: none.
-/
import Derived.Test.YthcndfnmgggblaaProg
import Derived.Below
import Derived.Deep.Draws
import Derived.Deep.AppendLies
import Derived.Maps.AppendAt
import Derived.OwnWalk
import Derived.Laws.BytesArg
import Derived.Laws.MakeOwn
import Derived.Laws.OwnMore
import Derived.Deep.OwnRows
import Derived.Tactics
import Derived.Lib.ConvBytes
import Derived.Laws.Slices
import Derived.WalkKit
import Derived.KernelRfl
import Derived.RowKit3
import Derived.Deep.LoopGhost
import Derived.Deep.QuietTactic
import Derived.BigQuiet
import Derived.WideLaws
import Derived.Deep.DeepCutAuto
import Derived.Deep.CutBlock
import Derived.Deep.RegionHeld3
import Derived.Laws.Rows
import Derived.Lib.AppendStr
import Derived.ArgAppend
import Derived.Laws.IdiomCopy
import Derived.OrdersHeld
import Derived.Laws.BitsLemmas
import Derived.RowKit
import Derived.Test.YthcndfnmgggblaaWWords
import Derived.Test.YthcndfnmgggblaaWLast
import Derived.Test.YthcndfnmgggblaaWTab
import Derived.Test.YthcndfnmgggblaaWFour
import Derived.Test.YthcndfnmgggblaaWQPut
import Derived.Test.YthcndfnmgggblaaWApart
import Derived.Test.YthcndfnmgggblaaWArr
import Derived.Test.YthcndfnmgggblaaWZeros
import Derived.Test.YthcndfnmgggblaaWFoot
import Derived.Test.YthcndfnmgggblaaWKept
import Derived.Test.YthcndfnmgggblaaWShare
import Derived.Test.YthcndfnmgggblaaWN
import Derived.Test.YthcndfnmgggblaaWFootNe
import Derived.Test.YthcndfnmgggblaaWAt
import Derived.Test.YthcndfnmgggblaaWEqStruct
import Derived.Test.YthcndfnmgggblaaWRepsOne
import Derived.Test.YthcndfnmgggblaaWInv
import Derived.Test.YthcndfnmgggblaaWInvWords
import Derived.Test.YthcndfnmgggblaaWGuard
import Derived.Test.YthcndfnmgggblaaWNEv
import Derived.Test.YthcndfnmgggblaaWMore
import Derived.Laws.CopyOwn
import Derived.StillTailTactics
import Derived.Test.YthcndfnmgggblaaHandInode
import Derived.Test.YthcndfnmgggblaaPx4
import Derived.Test.YthcndfnmgggblaaPx9
namespace Go.Proofs.Ythcndfnmgggblaa.P
open Go.RowKit Go.Proofs.YthcndfnmgggblaaW.PrintWords Go.Proofs.YthcndfnmgggblaaW.PrintLast Go.Proofs.YthcndfnmgggblaaW.PrintMore
attribute [local go_sem] max2_int min2_int max_two min_two max_three min_three max_four min_four
set_option linter.unusedVariables false
set_option linter.unusedSimpArgs false
theorem make_event {P : Program} {ops : Array Oper} {rest : List Oper} {o : Oper} {a : Act} {Q : Exit → Act → World → Prop} {W : World} (hgd : o.guard = none) {cs : Array Value} {t : TypeId} {n c : Nat}
    (hrun : (execOp a.eval o).run P W = .ok (.value (.slice (some ⟨W.heap.size, 0, none⟩) n c)) (W.alloc (.cells cs t (0, 0))))
    (h : ∀ g, g = W.heap.size → ∀ w1, w1.heap[g]? = some (.cells cs t (0, 0)) → Below W.heap.size W w1 → wpList P ops Q rest (a.put o.dst (.slice (some ⟨g, 0, none⟩) n c)) w1) : wpList P ops Q (o :: rest) a W :=
  Kd.event_run hgd hrun (h _ rfl _ (blk_new W _) (below_alloc (Below.refl _ _) _))
theorem nums_splice (l m : List Int) (off : Nat) : splice (nums .u8 l) off (nums .u8 m) = nums .u8 (splice l off m) := by
  simp [splice, nums, List.map_take, List.map_drop]
theorem splice_length (l m : List Int) (off : Nat) (h : off + m.length ≤ l.length) : (splice l off m).length = l.length := by simp [splice]; omega
/-- An inode's bytes, ahead of its blocks. -/
def putHead (a0 a1 a2 a3 : Int) : List Int := splice (splice (splice ((List.replicate 64 0).set 0 (a0 % 256)) 2 (putV (IntKind.u64.wrap a1) 2)) 4 (putV (IntKind.u64.wrap a2) 4)) 8 (putV (IntKind.u64.wrap a3) 8)
theorem putHead_length (a0 a1 a2 a3 : Int) : (putHead a0 a1 a2 a3).length = 64 := by
  unfold putHead
  rw [splice_length _ _ _ (by rw [splice_length _ _ _ (by rw [splice_length _ _ _ (by simp [putV_length])]; simp [putV_length]), splice_length _ _ _ (by simp [putV_length])]; simp [putV_length]), splice_length _ _ _ (by rw [splice_length _ _ _ (by simp [putV_length])]; simp [putV_length]), splice_length _ _ _ (by simp [putV_length])]
  simp
/-- With the first of its blocks. -/
def putRows (l : List Int) (P : List Int) : Nat → List Int
  | 0 => l
  | i + 1 => splice (putRows l P i) (16 + 2 * i) (putV (IntKind.u64.wrap (P.getD i 0)) 2)
theorem putRows_length (l : List Int) (P : List Int) (hl : l.length = 64) : ∀ i, i ≤ 8 → (putRows l P i).length = 64
  | 0, _ => hl
  | i + 1, h => by
    have := putRows_length l P hl i (by omega)
    simp only [putRows]
    rw [splice_length _ _ _ (by rw [putV_length]; omega)]
    exact this
set_option maxRecDepth 100000 in
theorem iput_no (k : Nat) (a0_0 a0_1 a0_2 a0_3 a0_4 a0_5 a0_6 a0_7 a0_8 a0_9 a0_10 a0_11 : Int) (w : World) (hR : inode_Right.f k a0_0 a0_1 a0_2 a0_3 a0_4 a0_5 a0_6 a0_7 a0_8 a0_9 a0_10 a0_11 = some false) :
    Calls Try.prog 6 #[.agg #[.int .i64 a0_0, .int .i64 a0_1, .int .i64 a0_2, .int .i64 a0_3, .int .i64 a0_4, .int .i64 a0_5, .int .i64 a0_6, .int .i64 a0_7, .int .i64 a0_8, .int .i64 a0_9, .int .i64 a0_10, .int .i64 a0_11]] w fun e w' => e = .returned (.tuple #[.slice none 0 0, .int .i64 1]) ∧ Below w.heap.size w w' := by
  have HR := Aside0.mk hR
  clear hR
  go_enter Try.func6, Try.ntmps6
  go_wp2_with (first
    | ((with_reducible refine gate_dst (N := 1) rfl ?_); refine box_event ?hg (N := 1) ?hd (cs := #[.int .i64 a0_0, .int .i64 a0_1, .int .i64 a0_2, .int .i64 a0_3, .int .i64 a0_4, .int .i64 a0_5, .int .i64 a0_6, .int .i64 a0_7, .int .i64 a0_8, .int .i64 a0_9, .int .i64 a0_10, .int .i64 a0_11]) (t := 24) ?hr ?_; (case hd => rfl); (case hg => rfl); (case hr => first | (go_simp; done) | (go_simp; rfl)); intro g1 hg1 w1 hx1 hb1
       have c0 : w1.cell? ⟨g1, 0, none⟩ = some (.int .i64 a0_0) := (blk_cell hx1 0).trans rfl
       have c1 : w1.cell? ⟨g1, 1, none⟩ = some (.int .i64 a0_1) := (blk_cell hx1 1).trans rfl
       have c2 : w1.cell? ⟨g1, 2, none⟩ = some (.int .i64 a0_2) := (blk_cell hx1 2).trans rfl
       have c3 : w1.cell? ⟨g1, 3, none⟩ = some (.int .i64 a0_3) := (blk_cell hx1 3).trans rfl
       have c4 : w1.cell? ⟨g1, 4, none⟩ = some (.int .i64 a0_4) := (blk_cell hx1 4).trans rfl
       have c5 : w1.cell? ⟨g1, 5, none⟩ = some (.int .i64 a0_5) := (blk_cell hx1 5).trans rfl
       have c6 : w1.cell? ⟨g1, 6, none⟩ = some (.int .i64 a0_6) := (blk_cell hx1 6).trans rfl
       have c7 : w1.cell? ⟨g1, 7, none⟩ = some (.int .i64 a0_7) := (blk_cell hx1 7).trans rfl
       have c8 : w1.cell? ⟨g1, 8, none⟩ = some (.int .i64 a0_8) := (blk_cell hx1 8).trans rfl
       have c9 : w1.cell? ⟨g1, 9, none⟩ = some (.int .i64 a0_9) := (blk_cell hx1 9).trans rfl
       have c10 : w1.cell? ⟨g1, 10, none⟩ = some (.int .i64 a0_10) := (blk_cell hx1 10).trans rfl
       have c11 : w1.cell? ⟨g1, 11, none⟩ = some (.int .i64 a0_11) := (blk_cell hx1 11).trans rfl
       have HX1 := Aside0.mk hx1; have HB1 := Aside0.mk hb1; have HG1 := Aside0.mk hg1; clear hx1 hb1 hg1)
    | (go_at_call 11; refine (inode_Right.calls k a0_0 a0_1 a0_2 a0_3 a0_4 a0_5 a0_6 a0_7 a0_8 a0_9 a0_10 a0_11 false _ HR.out).mono ?_; rintro e w2 ⟨rfl, hb2⟩; have HB2 := Aside0.mk hb2; clear hb2))
  go_ret2
  exact ⟨rfl, below_step HB1.out HB2.out⟩
set_option maxRecDepth 100000 in
theorem iput_yes (k : Nat) (a0_0 a0_1 a0_2 a0_3 a0_4 a0_5 a0_6 a0_7 a0_8 a0_9 a0_10 a0_11 : Int) (w : World) (hR : inode_Right.f k a0_0 a0_1 a0_2 a0_3 a0_4 a0_5 a0_6 a0_7 a0_8 a0_9 a0_10 a0_11 = some true) :
    Calls Try.prog 6 #[.agg #[.int .i64 a0_0, .int .i64 a0_1, .int .i64 a0_2, .int .i64 a0_3, .int .i64 a0_4, .int .i64 a0_5, .int .i64 a0_6, .int .i64 a0_7, .int .i64 a0_8, .int .i64 a0_9, .int .i64 a0_10, .int .i64 a0_11]] w fun e w' => ∃ v0_ : Value, e = .returned (.tuple #[v0_, .int .i64 0]) ∧ Kd.R (Kd.int .u8) 5 w' w.heap.size (fun _ => True) v0_ (putRows (putHead a0_0 a0_1 a0_2 a0_3) [a0_4, a0_5, a0_6, a0_7, a0_8, a0_9, a0_10, a0_11] 8) ∧ Below w.heap.size w w' := by
  have HR := Aside0.mk hR
  clear hR
  have hmk : ∀ W : World, Sem.run Try.prog (Instr.makeSlice 25 (.int .i64 64) (.int .i64 64)) W = .ok (.slice (some ⟨W.heap.size, 0, none⟩) 64 64) (W.alloc (.cells (nums .u8 (List.replicate 64 0)).toArray 5 (0, 0))) := by
    have h := print_make (P := Try.prog) 25 5 .u8 1 Try.underlying25 info5 (by omega) 64 (by omega)
    simp only [made_eq] at h
    intro W
    exact h W
  go_enter Try.func6, Try.ntmps6
  go_wp2_with (first
    | ((with_reducible refine gate_dst (N := 1) rfl ?_); refine box_event ?hg (N := 1) ?hd (cs := #[.int .i64 a0_0, .int .i64 a0_1, .int .i64 a0_2, .int .i64 a0_3, .int .i64 a0_4, .int .i64 a0_5, .int .i64 a0_6, .int .i64 a0_7, .int .i64 a0_8, .int .i64 a0_9, .int .i64 a0_10, .int .i64 a0_11]) (t := 24) ?hr ?_; (case hd => rfl); (case hg => rfl); (case hr => first | (go_simp; done) | (go_simp; rfl)); intro g1 hg1 w1 hx1 hb1
       have c0 : w1.cell? ⟨g1, 0, none⟩ = some (.int .i64 a0_0) := (blk_cell hx1 0).trans rfl
       have c1 : w1.cell? ⟨g1, 1, none⟩ = some (.int .i64 a0_1) := (blk_cell hx1 1).trans rfl
       have c2 : w1.cell? ⟨g1, 2, none⟩ = some (.int .i64 a0_2) := (blk_cell hx1 2).trans rfl
       have c3 : w1.cell? ⟨g1, 3, none⟩ = some (.int .i64 a0_3) := (blk_cell hx1 3).trans rfl
       have c4 : w1.cell? ⟨g1, 4, none⟩ = some (.int .i64 a0_4) := (blk_cell hx1 4).trans rfl
       have c5 : w1.cell? ⟨g1, 5, none⟩ = some (.int .i64 a0_5) := (blk_cell hx1 5).trans rfl
       have c6 : w1.cell? ⟨g1, 6, none⟩ = some (.int .i64 a0_6) := (blk_cell hx1 6).trans rfl
       have c7 : w1.cell? ⟨g1, 7, none⟩ = some (.int .i64 a0_7) := (blk_cell hx1 7).trans rfl
       have c8 : w1.cell? ⟨g1, 8, none⟩ = some (.int .i64 a0_8) := (blk_cell hx1 8).trans rfl
       have c9 : w1.cell? ⟨g1, 9, none⟩ = some (.int .i64 a0_9) := (blk_cell hx1 9).trans rfl
       have c10 : w1.cell? ⟨g1, 10, none⟩ = some (.int .i64 a0_10) := (blk_cell hx1 10).trans rfl
       have c11 : w1.cell? ⟨g1, 11, none⟩ = some (.int .i64 a0_11) := (blk_cell hx1 11).trans rfl
       have HX1 := Aside0.mk hx1; have HB1 := Aside0.mk hb1; have HG1 := Aside0.mk hg1; clear hx1 hb1 hg1)
    | (go_at_call 11; refine (inode_Right.calls k a0_0 a0_1 a0_2 a0_3 a0_4 a0_5 a0_6 a0_7 a0_8 a0_9 a0_10 a0_11 true _ HR.out).mono ?_; rintro e w2 ⟨rfl, hb2⟩; have HB2 := Aside0.mk hb2; clear hb2)
    | ((with_reducible refine gate_dst (N := 10) rfl ?_); refine make_event ?hg (cs := (nums .u8 (List.replicate 64 0)).toArray) (t := 5) (n := 64) (c := 64) ?hr ?_; (case hg => rfl); (case hr => first | (go_simp; done) | (go_simp; rfl)); intro g2 hg2 w3 hx3 hb3
       have hy3 := blk_below (blk_below HX1.out HB2.out) hb3
       have hc3 := below_step (below_step HB1.out HB2.out) hb3
       have d0 : w3.cell? ⟨g1, 0, none⟩ = some (.int .i64 a0_0) := (blk_cell hy3 0).trans rfl
       have e0 : w3.cell? ⟨g2, 0, none⟩ = some (.int .u8 0) := (blk_cell hx3 0).trans rfl
       have f0 := blk_frozen hx3 0
       have l12 : g1 < g2 := by have h1 := blk_lt HX1.out; have h2 := HB2.out.size; omega
       have L := Aside0.mk (And.intro l12 (show w.heap.size ≤ g2 by have := HB1.out.size; have := HB2.out.size; omega))
       have HX3 := Aside0.mk hx3; have HY3 := Aside0.mk hy3; have HC3 := Aside0.mk hc3; clear hx3 hy3 hc3 hb3 hg2 l12 HX1 HB1 HB2 HG1 hmk)
    | (refine gate_store (t := 5) (p := 15) rfl ?_; refine store_event (t := 5) (p := 15) (v := .tmp 14) (w1 := w3.setCell ⟨g2, 0, none⟩ (.int .u8 (a0_0 % 256))) ?hg ?ho ?hn ?hr ?_; (case ho => rfl); (case hg => rfl); (case hn => rfl); (case hr => first | (go_simp; done) | (go_simp; rfl)); intro w4 hw4
       have hx := blk_put HX3.out 0 (.int .u8 (a0_0 % 256)) (cs' := (nums .u8 ((List.replicate 64 0).set 0 (a0_0 % 256))).toArray) (by rw [List.setIfInBounds_toArray]; simp [nums])
       have hy := (Below.heap_setCell w3 ⟨g2, 0, none⟩ (.int .u8 (a0_0 % 256)) g1 (by have := L.out; show g1 ≠ g2; omega)).trans HY3.out
       have hc := below_set (j := 0) (v := .int .u8 (a0_0 % 256)) HC3.out L.out.2
       rw [← hw4] at hx hy hc
       have HX := Aside0.mk hx; have HY := Aside0.mk hy; have HC := Aside0.mk hc; clear hx hy hc hw4 HX3 HY3 HC3 d0 e0 f0))
  refine wp_region_still_tail 5 (by kernel_rfl) (by kernel_rfl) ?_
  change wpStill _ _ (World.drew w4) (fun a' => wpList _ _ _ _ a' (World.drew w4)) _ _
  obtain ⟨v0, hv0⟩ : ∃ v, v = World.drew w4 := ⟨_, rfl⟩
  have hx := blk_drew HX.out
  have hy := blk_drew HY.out
  have hc := below_drew HC.out
  rw [← hv0] at hx hy hc ⊢
  have d1 : World.cell? v0 ⟨g1, 1, none⟩ = some (.int .i64 a0_1) := (blk_cell hy 1).trans rfl
  clear hv0 HX HY HC
  have HX := Aside0.mk hx
  have HY := Aside0.mk hy
  have HC := Aside0.mk hc
  clear hx hy hc
  simp only [List.take_succ_cons, List.take_zero, List.drop_succ_cons, List.drop_zero]
  iterate 5 still_step
  refine wpStill_nil ?_
  go_wp2_with (first
    | (go_at_call 27; refine (put_cells g2 2 2 62 (nums .u8 ((List.replicate 64 0).set 0 (a0_0 % 256))) 5 (IntKind.u64.wrap a0_1) v0 HX.out (by simp [nums_length, splice_length, putV_length]) (by omega)).mono ?_; rintro e x0 ⟨rfl, hx, hb⟩
       rw [nums_splice] at hx
       have hy := (hb.block g1 L.out.1).trans HY.out
       have hc := below_weaken HC.out L.out.2 hb
       clear HX HY HC hb d1
       have HX := Aside0.mk hx
       have HY := Aside0.mk hy
       have HC := Aside0.mk hc
       clear hx hy hc)
    | (go_at_call 28; refine (all_any a0_0 a0_1 a0_2 a0_3 a0_4 a0_5 a0_6 a0_7 a0_8 a0_9 a0_10 a0_11 _).mono ?_; rintro e y0 ⟨rfl, hb⟩
       have hx := blk_below HX.out hb; have hy := blk_below HY.out hb; have hc := below_step HC.out hb
       clear HX HY HC hb; have HX := Aside0.mk hx; have HY := Aside0.mk hy; have HC := Aside0.mk hc; clear hx hy hc))
  refine wp_region_still_tail 5 (by kernel_rfl) (by kernel_rfl) ?_
  change wpStill _ _ (World.drew x0) (fun a' => wpList _ _ _ _ a' (World.drew x0)) _ _
  obtain ⟨v1, hv1⟩ : ∃ v, v = World.drew x0 := ⟨_, rfl⟩
  have hx := blk_drew HX.out
  have hy := blk_drew HY.out
  have hc := below_drew HC.out
  rw [← hv1] at hx hy hc ⊢
  have d2 : World.cell? v1 ⟨g1, 2, none⟩ = some (.int .i64 a0_2) := (blk_cell hy 2).trans rfl
  clear hv1 HX HY HC
  have HX := Aside0.mk hx
  have HY := Aside0.mk hy
  have HC := Aside0.mk hc
  clear hx hy hc
  simp only [List.take_succ_cons, List.take_zero, List.drop_succ_cons, List.drop_zero]
  iterate 5 still_step
  refine wpStill_nil ?_
  go_wp2_with (first
    | (go_at_call 27; refine (put_cells g2 4 4 60 (nums .u8 (splice ((List.replicate 64 0).set 0 (a0_0 % 256)) 2 (putV (IntKind.u64.wrap a0_1) 2))) 5 (IntKind.u64.wrap a0_2) v1 HX.out (by simp [nums_length, splice_length, putV_length]) (by omega)).mono ?_; rintro e x1 ⟨rfl, hx, hb⟩
       rw [nums_splice] at hx
       have hy := (hb.block g1 L.out.1).trans HY.out
       have hc := below_weaken HC.out L.out.2 hb
       clear HX HY HC hb d2
       have HX := Aside0.mk hx
       have HY := Aside0.mk hy
       have HC := Aside0.mk hc
       clear hx hy hc)
    | (go_at_call 28; refine (all_any a0_0 a0_1 a0_2 a0_3 a0_4 a0_5 a0_6 a0_7 a0_8 a0_9 a0_10 a0_11 _).mono ?_; rintro e y0 ⟨rfl, hb⟩
       have hx := blk_below HX.out hb; have hy := blk_below HY.out hb; have hc := below_step HC.out hb
       clear HX HY HC hb; have HX := Aside0.mk hx; have HY := Aside0.mk hy; have HC := Aside0.mk hc; clear hx hy hc))
  refine wp_region_still_tail 5 (by kernel_rfl) (by kernel_rfl) ?_
  change wpStill _ _ (World.drew x1) (fun a' => wpList _ _ _ _ a' (World.drew x1)) _ _
  obtain ⟨v2, hv2⟩ : ∃ v, v = World.drew x1 := ⟨_, rfl⟩
  have hx := blk_drew HX.out
  have hy := blk_drew HY.out
  have hc := below_drew HC.out
  rw [← hv2] at hx hy hc ⊢
  have d3 : World.cell? v2 ⟨g1, 3, none⟩ = some (.int .i64 a0_3) := (blk_cell hy 3).trans rfl
  clear hv2 HX HY HC
  have HX := Aside0.mk hx
  have HY := Aside0.mk hy
  have HC := Aside0.mk hc
  clear hx hy hc
  simp only [List.take_succ_cons, List.take_zero, List.drop_succ_cons, List.drop_zero]
  iterate 5 still_step
  refine wpStill_nil ?_
  go_wp2_with (first
    | (go_at_call 27; refine (put_cells g2 8 8 56 (nums .u8 (splice (splice ((List.replicate 64 0).set 0 (a0_0 % 256)) 2 (putV (IntKind.u64.wrap a0_1) 2)) 4 (putV (IntKind.u64.wrap a0_2) 4))) 5 (IntKind.u64.wrap a0_3) v2 HX.out (by simp [nums_length, splice_length, putV_length]) (by omega)).mono ?_; rintro e x2 ⟨rfl, hx, hb⟩
       rw [nums_splice] at hx
       have hy := (hb.block g1 L.out.1).trans HY.out
       have hc := below_weaken HC.out L.out.2 hb
       clear HX HY HC hb d3
       have HX := Aside0.mk hx
       have HY := Aside0.mk hy
       have HC := Aside0.mk hc
       have q0 : x2.cell? ⟨g1, 0, none⟩ = some (.int .i64 a0_0) := (blk_cell hy 0).trans rfl
       have q1 : x2.cell? ⟨g1, 1, none⟩ = some (.int .i64 a0_1) := (blk_cell hy 1).trans rfl
       have q2 : x2.cell? ⟨g1, 2, none⟩ = some (.int .i64 a0_2) := (blk_cell hy 2).trans rfl
       have q3 : x2.cell? ⟨g1, 3, none⟩ = some (.int .i64 a0_3) := (blk_cell hy 3).trans rfl
       have q4 : x2.cell? ⟨g1, 4, none⟩ = some (.int .i64 a0_4) := (blk_cell hy 4).trans rfl
       have q5 : x2.cell? ⟨g1, 5, none⟩ = some (.int .i64 a0_5) := (blk_cell hy 5).trans rfl
       have q6 : x2.cell? ⟨g1, 6, none⟩ = some (.int .i64 a0_6) := (blk_cell hy 6).trans rfl
       have q7 : x2.cell? ⟨g1, 7, none⟩ = some (.int .i64 a0_7) := (blk_cell hy 7).trans rfl
       have q8 : x2.cell? ⟨g1, 8, none⟩ = some (.int .i64 a0_8) := (blk_cell hy 8).trans rfl
       have q9 : x2.cell? ⟨g1, 9, none⟩ = some (.int .i64 a0_9) := (blk_cell hy 9).trans rfl
       have q10 : x2.cell? ⟨g1, 10, none⟩ = some (.int .i64 a0_10) := (blk_cell hy 10).trans rfl
       have q11 : x2.cell? ⟨g1, 11, none⟩ = some (.int .i64 a0_11) := (blk_cell hy 11).trans rfl
       clear hx hy hc)
    | (go_at_call 28; refine (all_any a0_0 a0_1 a0_2 a0_3 a0_4 a0_5 a0_6 a0_7 a0_8 a0_9 a0_10 a0_11 _).mono ?_; rintro e y0 ⟨rfl, hb⟩
       have hx := blk_below HX.out hb; have hy := blk_below HY.out hb; have hc := below_step HC.out hb
       clear HX HY HC hb; have HX := Aside0.mk hx; have HY := Aside0.mk hy; have HC := Aside0.mk hc; clear hx hy hc))
  clear q0 q1 q2 q3 q4 q5 q6 q7 q8 q9 q10 q11
  have HL0 := Aside0.mk (putHead_length a0_0 a0_1 a0_2 a0_3)
  have HX0 : Aside0 (y0.heap[g2]? = some (.cells (nums .u8 (putRows (putHead a0_0 a0_1 a0_2 a0_3) [a0_4, a0_5, a0_6, a0_7, a0_8, a0_9, a0_10, a0_11] 0)).toArray 5 (0, 0))) := ⟨HX.out⟩
  clear HX
  go_loopw [36] (fun v36 wr => ∃ (i : Nat) (x : Int), i ≤ 8 ∧ x = i ∧ v36 = .int .i64 x ∧ Aside0 (wr.heap[g2]? = some (.cells (nums .u8 (putRows (putHead a0_0 a0_1 a0_2 a0_3) [a0_4, a0_5, a0_6, a0_7, a0_8, a0_9, a0_10, a0_11] i)).toArray 5 (0, 0))) ∧ Aside0 (Below w.heap.size w wr)) (fun v36 _ => 8 - (intOf v36).toNat)
  case atStart => exact ⟨0, 0, by omega, rfl, rfl, HX0, HC⟩
  case round =>
    clear HX0 HC HY
    obtain ⟨i, x, hi, hx, rfl, HG, HB⟩ := hrel
    have hcase : (i = 0 ∧ x = 0) ∨ (i = 1 ∧ x = 1) ∨ (i = 2 ∧ x = 2) ∨ (i = 3 ∧ x = 3) ∨ (i = 4 ∧ x = 4) ∨ (i = 5 ∧ x = 5) ∨ (i = 6 ∧ x = 6) ∨ (i = 7 ∧ x = 7) ∨ (i = 8 ∧ x = 8) := by omega
    clear hi hx
    rcases hcase with ⟨rfl, rfl⟩ | ⟨rfl, rfl⟩ | ⟨rfl, rfl⟩ | ⟨rfl, rfl⟩ | ⟨rfl, rfl⟩ | ⟨rfl, rfl⟩ | ⟨rfl, rfl⟩ | ⟨rfl, rfl⟩ | ⟨rfl, rfl⟩
    · have hix : ∀ W : World, (Instr.index 49 (.agg #[.int .i64 a0_4, .int .i64 a0_5, .int .i64 a0_6, .int .i64 a0_7, .int .i64 a0_8, .int .i64 a0_9, .int .i64 a0_10, .int .i64 a0_11]) (.int .i64 0)).run Try.prog W = .ok (.int .i64 a0_4) W := fun _ => by kernel_rfl
      go_wp2_with (go_at_call 27; refine (put_cells g2 16 2 48 (nums .u8 (putRows (putHead a0_0 a0_1 a0_2 a0_3) [a0_4, a0_5, a0_6, a0_7, a0_8, a0_9, a0_10, a0_11] 0)) 5 (IntKind.u64.wrap a0_4) _ HG.out (by rw [nums_length, putRows_length _ _ HL0.out _ (by omega)]; omega) (by omega)).mono ?_; rintro e w9 ⟨rfl, hx, hb⟩; rw [nums_splice] at hx; have HX9 := Aside0.mk hx; have HB9 := Aside0.mk (below_weaken HB.out L.out.2 hb); clear hx hb)
      go_roundw
      case rel => exact ⟨1, 1, by omega, rfl, by go_num, ⟨HX9.out⟩, HB9⟩
      case measure => simp [intOf]
    · have hix : ∀ W : World, (Instr.index 49 (.agg #[.int .i64 a0_4, .int .i64 a0_5, .int .i64 a0_6, .int .i64 a0_7, .int .i64 a0_8, .int .i64 a0_9, .int .i64 a0_10, .int .i64 a0_11]) (.int .i64 1)).run Try.prog W = .ok (.int .i64 a0_5) W := fun _ => by kernel_rfl
      go_wp2_with (go_at_call 27; refine (put_cells g2 18 2 46 (nums .u8 (putRows (putHead a0_0 a0_1 a0_2 a0_3) [a0_4, a0_5, a0_6, a0_7, a0_8, a0_9, a0_10, a0_11] 1)) 5 (IntKind.u64.wrap a0_5) _ HG.out (by rw [nums_length, putRows_length _ _ HL0.out _ (by omega)]; omega) (by omega)).mono ?_; rintro e w9 ⟨rfl, hx, hb⟩; rw [nums_splice] at hx; have HX9 := Aside0.mk hx; have HB9 := Aside0.mk (below_weaken HB.out L.out.2 hb); clear hx hb)
      go_roundw
      case rel => exact ⟨2, 2, by omega, rfl, by go_num, ⟨HX9.out⟩, HB9⟩
      case measure => simp [intOf]
    · have hix : ∀ W : World, (Instr.index 49 (.agg #[.int .i64 a0_4, .int .i64 a0_5, .int .i64 a0_6, .int .i64 a0_7, .int .i64 a0_8, .int .i64 a0_9, .int .i64 a0_10, .int .i64 a0_11]) (.int .i64 2)).run Try.prog W = .ok (.int .i64 a0_6) W := fun _ => by kernel_rfl
      go_wp2_with (go_at_call 27; refine (put_cells g2 20 2 44 (nums .u8 (putRows (putHead a0_0 a0_1 a0_2 a0_3) [a0_4, a0_5, a0_6, a0_7, a0_8, a0_9, a0_10, a0_11] 2)) 5 (IntKind.u64.wrap a0_6) _ HG.out (by rw [nums_length, putRows_length _ _ HL0.out _ (by omega)]; omega) (by omega)).mono ?_; rintro e w9 ⟨rfl, hx, hb⟩; rw [nums_splice] at hx; have HX9 := Aside0.mk hx; have HB9 := Aside0.mk (below_weaken HB.out L.out.2 hb); clear hx hb)
      go_roundw
      case rel => exact ⟨3, 3, by omega, rfl, by go_num, ⟨HX9.out⟩, HB9⟩
      case measure => simp [intOf]
    · have hix : ∀ W : World, (Instr.index 49 (.agg #[.int .i64 a0_4, .int .i64 a0_5, .int .i64 a0_6, .int .i64 a0_7, .int .i64 a0_8, .int .i64 a0_9, .int .i64 a0_10, .int .i64 a0_11]) (.int .i64 3)).run Try.prog W = .ok (.int .i64 a0_7) W := fun _ => by kernel_rfl
      go_wp2_with (go_at_call 27; refine (put_cells g2 22 2 42 (nums .u8 (putRows (putHead a0_0 a0_1 a0_2 a0_3) [a0_4, a0_5, a0_6, a0_7, a0_8, a0_9, a0_10, a0_11] 3)) 5 (IntKind.u64.wrap a0_7) _ HG.out (by rw [nums_length, putRows_length _ _ HL0.out _ (by omega)]; omega) (by omega)).mono ?_; rintro e w9 ⟨rfl, hx, hb⟩; rw [nums_splice] at hx; have HX9 := Aside0.mk hx; have HB9 := Aside0.mk (below_weaken HB.out L.out.2 hb); clear hx hb)
      go_roundw
      case rel => exact ⟨4, 4, by omega, rfl, by go_num, ⟨HX9.out⟩, HB9⟩
      case measure => simp [intOf]
    · have hix : ∀ W : World, (Instr.index 49 (.agg #[.int .i64 a0_4, .int .i64 a0_5, .int .i64 a0_6, .int .i64 a0_7, .int .i64 a0_8, .int .i64 a0_9, .int .i64 a0_10, .int .i64 a0_11]) (.int .i64 4)).run Try.prog W = .ok (.int .i64 a0_8) W := fun _ => by kernel_rfl
      go_wp2_with (go_at_call 27; refine (put_cells g2 24 2 40 (nums .u8 (putRows (putHead a0_0 a0_1 a0_2 a0_3) [a0_4, a0_5, a0_6, a0_7, a0_8, a0_9, a0_10, a0_11] 4)) 5 (IntKind.u64.wrap a0_8) _ HG.out (by rw [nums_length, putRows_length _ _ HL0.out _ (by omega)]; omega) (by omega)).mono ?_; rintro e w9 ⟨rfl, hx, hb⟩; rw [nums_splice] at hx; have HX9 := Aside0.mk hx; have HB9 := Aside0.mk (below_weaken HB.out L.out.2 hb); clear hx hb)
      go_roundw
      case rel => exact ⟨5, 5, by omega, rfl, by go_num, ⟨HX9.out⟩, HB9⟩
      case measure => simp [intOf]
    · have hix : ∀ W : World, (Instr.index 49 (.agg #[.int .i64 a0_4, .int .i64 a0_5, .int .i64 a0_6, .int .i64 a0_7, .int .i64 a0_8, .int .i64 a0_9, .int .i64 a0_10, .int .i64 a0_11]) (.int .i64 5)).run Try.prog W = .ok (.int .i64 a0_9) W := fun _ => by kernel_rfl
      go_wp2_with (go_at_call 27; refine (put_cells g2 26 2 38 (nums .u8 (putRows (putHead a0_0 a0_1 a0_2 a0_3) [a0_4, a0_5, a0_6, a0_7, a0_8, a0_9, a0_10, a0_11] 5)) 5 (IntKind.u64.wrap a0_9) _ HG.out (by rw [nums_length, putRows_length _ _ HL0.out _ (by omega)]; omega) (by omega)).mono ?_; rintro e w9 ⟨rfl, hx, hb⟩; rw [nums_splice] at hx; have HX9 := Aside0.mk hx; have HB9 := Aside0.mk (below_weaken HB.out L.out.2 hb); clear hx hb)
      go_roundw
      case rel => exact ⟨6, 6, by omega, rfl, by go_num, ⟨HX9.out⟩, HB9⟩
      case measure => simp [intOf]
    · have hix : ∀ W : World, (Instr.index 49 (.agg #[.int .i64 a0_4, .int .i64 a0_5, .int .i64 a0_6, .int .i64 a0_7, .int .i64 a0_8, .int .i64 a0_9, .int .i64 a0_10, .int .i64 a0_11]) (.int .i64 6)).run Try.prog W = .ok (.int .i64 a0_10) W := fun _ => by kernel_rfl
      go_wp2_with (go_at_call 27; refine (put_cells g2 28 2 36 (nums .u8 (putRows (putHead a0_0 a0_1 a0_2 a0_3) [a0_4, a0_5, a0_6, a0_7, a0_8, a0_9, a0_10, a0_11] 6)) 5 (IntKind.u64.wrap a0_10) _ HG.out (by rw [nums_length, putRows_length _ _ HL0.out _ (by omega)]; omega) (by omega)).mono ?_; rintro e w9 ⟨rfl, hx, hb⟩; rw [nums_splice] at hx; have HX9 := Aside0.mk hx; have HB9 := Aside0.mk (below_weaken HB.out L.out.2 hb); clear hx hb)
      go_roundw
      case rel => exact ⟨7, 7, by omega, rfl, by go_num, ⟨HX9.out⟩, HB9⟩
      case measure => simp [intOf]
    · have hix : ∀ W : World, (Instr.index 49 (.agg #[.int .i64 a0_4, .int .i64 a0_5, .int .i64 a0_6, .int .i64 a0_7, .int .i64 a0_8, .int .i64 a0_9, .int .i64 a0_10, .int .i64 a0_11]) (.int .i64 7)).run Try.prog W = .ok (.int .i64 a0_11) W := fun _ => by kernel_rfl
      go_wp2_with (go_at_call 27; refine (put_cells g2 30 2 34 (nums .u8 (putRows (putHead a0_0 a0_1 a0_2 a0_3) [a0_4, a0_5, a0_6, a0_7, a0_8, a0_9, a0_10, a0_11] 7)) 5 (IntKind.u64.wrap a0_11) _ HG.out (by rw [nums_length, putRows_length _ _ HL0.out _ (by omega)]; omega) (by omega)).mono ?_; rintro e w9 ⟨rfl, hx, hb⟩; rw [nums_splice] at hx; have HX9 := Aside0.mk hx; have HB9 := Aside0.mk (below_weaken HB.out L.out.2 hb); clear hx hb)
      go_roundw
      case rel => exact ⟨8, 8, by omega, rfl, by go_num, ⟨HX9.out⟩, HB9⟩
      case measure => simp [intOf]
    · go_wp2
      go_ret2
      have hr := R_of_block (ok := fun _ => True) (base := w.heap.size) (xs := putRows (putHead a0_0 a0_1 a0_2 a0_3) [a0_4, a0_5, a0_6, a0_7, a0_8, a0_9, a0_10, a0_11] 8) HG.out L.out.2 (by rw [List.take_of_length_le]; rw [nums_length]; exact Nat.le_refl _) (by rw [nums_length, putRows_length _ _ HL0.out _ (by omega)]; decide) trivial
      rw [nums_length, putRows_length _ _ HL0.out 8 (by omega)] at hr
      exact ⟨_, rfl, hr, HB.out⟩

def inode_Put.f (k : Nat) (a0_0 a0_1 a0_2 a0_3 a0_4 a0_5 a0_6 a0_7 a0_8 a0_9 a0_10 a0_11 : Int) : Option (List Int × Int) := (inode_Right.f k a0_0 a0_1 a0_2 a0_3 a0_4 a0_5 a0_6 a0_7 a0_8 a0_9 a0_10 a0_11).bind fun t => if t = true then some (putRows (putHead a0_0 a0_1 a0_2 a0_3) [a0_4, a0_5, a0_6, a0_7, a0_8, a0_9, a0_10, a0_11] 8, 0) else some ([], 1)
theorem inode_Put.mono : ∀ b0 b1 b2 b3 b4 b5 b6 b7 b8 b9 b10 b11 k, LeO (inode_Put.f k b0 b1 b2 b3 b4 b5 b6 b7 b8 b9 b10 b11) (inode_Put.f (k + 1) b0 b1 b2 b3 b4 b5 b6 b7 b8 b9 b10 b11) := by
  intro b0 b1 b2 b3 b4 b5 b6 b7 b8 b9 b10 b11 k
  exact LeO.bind (inode_Right.mono _ _ _ _ _ _ _ _ _ _ _ _ _) (fun _ => LeO.refl _)
theorem inode_Put.calls (k : Nat) (a0_0 a0_1 a0_2 a0_3 a0_4 a0_5 a0_6 a0_7 a0_8 a0_9 a0_10 a0_11 : Int) (r1 : List Int) (r2 : Int) (w : World) (h : inode_Put.f k a0_0 a0_1 a0_2 a0_3 a0_4 a0_5 a0_6 a0_7 a0_8 a0_9 a0_10 a0_11 = some (r1, r2)) :
    Calls Try.prog 6 #[.agg #[.int .i64 a0_0, .int .i64 a0_1, .int .i64 a0_2, .int .i64 a0_3, .int .i64 a0_4, .int .i64 a0_5, .int .i64 a0_6, .int .i64 a0_7, .int .i64 a0_8, .int .i64 a0_9, .int .i64 a0_10, .int .i64 a0_11]] w fun e w' => ∃ v0_ : Value, e = .returned (.tuple #[v0_, .int .i64 r2]) ∧ Kd.R (Kd.int .u8) 5 w' w.heap.size (fun _ => True) v0_ r1 ∧ Below w.heap.size w w' := by
  unfold inode_Put.f at h
  obtain ⟨t, ht, h⟩ := Option.bind_eq_some_iff.mp h
  cases t
  · rw [if_neg (by decide)] at h
    obtain ⟨rfl, rfl⟩ := Prod.mk.inj (Option.some.inj h)
    refine (iput_no k a0_0 a0_1 a0_2 a0_3 a0_4 a0_5 a0_6 a0_7 a0_8 a0_9 a0_10 a0_11 w ht).mono ?_
    rintro e w' ⟨rfl, hb⟩
    exact ⟨_, rfl, Kd.R_nil _ _ _ _ _, hb⟩
  · rw [if_pos rfl] at h
    obtain ⟨rfl, rfl⟩ := Prod.mk.inj (Option.some.inj h)
    exact iput_yes k a0_0 a0_1 a0_2 a0_3 a0_4 a0_5 a0_6 a0_7 a0_8 a0_9 a0_10 a0_11 w ht
end Go.Proofs.Ythcndfnmgggblaa.P
