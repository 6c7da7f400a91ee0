/-
super.Put, walked by hand: the block that it hands back.
Conditions: none.
-/
import Derived.Test.YtjblkjknkemkdaaProg
import Derived.Below
import Derived.Deep.Draws
import Derived.Deep.AppendLies
import Derived.Maps.AppendAt
import Derived.OwnWalk
import Derived.Laws.BytesArg
import Derived.Laws.MakeOwn
import Derived.Laws.OwnMore
import Derived.Deep.OwnRows
import Derived.Tactics
import Derived.Lib.ConvBytes
import Derived.Laws.Slices
import Derived.WalkKit
import Derived.KernelRfl
import Derived.RowKit3
import Derived.Deep.LoopGhost
import Derived.Deep.QuietTactic
import Derived.BigQuiet
import Derived.WideLaws
import Derived.Deep.DeepCutAuto
import Derived.Deep.CutBlock
import Derived.Deep.RegionHeld3
import Derived.Laws.Rows
import Derived.Lib.AppendStr
import Derived.ArgAppend
import Derived.Laws.IdiomCopy
import Derived.OrdersHeld
import Derived.Laws.BitsLemmas
import Derived.RowKit
import Derived.Test.YtjblkjknkemkdaaWWords
import Derived.Test.YtjblkjknkemkdaaWLast
import Derived.Test.YtjblkjknkemkdaaWTab
import Derived.Test.YtjblkjknkemkdaaWFour
import Derived.Test.YtjblkjknkemkdaaWQPut
import Derived.Test.YtjblkjknkemkdaaWApart
import Derived.Test.YtjblkjknkemkdaaWArr
import Derived.Test.YtjblkjknkemkdaaWZeros
import Derived.Test.YtjblkjknkemkdaaWFoot
import Derived.Test.YtjblkjknkemkdaaWKept
import Derived.Test.YtjblkjknkemkdaaWShare
import Derived.Test.YtjblkjknkemkdaaWN
import Derived.Test.YtjblkjknkemkdaaWFootNe
import Derived.Test.YtjblkjknkemkdaaWAt
import Derived.Test.YtjblkjknkemkdaaWEqStruct
import Derived.Test.YtjblkjknkemkdaaWRepsOne
import Derived.Test.YtjblkjknkemkdaaWInv
import Derived.Test.YtjblkjknkemkdaaWInvWords
import Derived.Test.YtjblkjknkemkdaaWGuard
import Derived.Test.YtjblkjknkemkdaaWNEv
import Derived.Test.YtjblkjknkemkdaaWMore
import Derived.StillTailTactics
import Derived.Deep.RegionWith
import Derived.Test.YtjblkjknkemkdaaHand
import Derived.Laws.CopyOwn
import Derived.Test.YtjblkjknkemkdaaPx4
namespace Go.Proofs.Ytjblkjknkemkdaa.P
open Go.RowKit Go.Proofs.YtjblkjknkemkdaaW.PrintWords Go.Proofs.YtjblkjknkemkdaaW.PrintLast Go.Proofs.YtjblkjknkemkdaaW.PrintMore
attribute [local go_sem] max2_int min2_int max_two min_two max_three min_three max_four min_four
set_option linter.unusedVariables false
set_option linter.unusedSimpArgs false
/-- A string's bytes, as values. -/
def strCells (s : ByteArray) : List Value := s.data.toList.map fun b => .int .u8 b.toNat
theorem strCells_length (s : ByteArray) : (strCells s).length = s.size := by
  unfold strCells
  rw [List.length_map, Array.length_toList]
  rfl
theorem run_copy_string {P : Program} (w : World) (dT sT ty elem : TypeId) (g o dLen dCap : Nat) (s : ByteArray) (cur : Array Value) (t : TypeId)
    (hu : P.underlying dT = some (.slice elem)) (hs : (P.info? elem).map (·.size) = some 1)
    (hg : w.heap[g]? = some (.cells cur t (0, 0))) (hn : s.size ≤ dLen) (hfit : o + s.size ≤ cur.size) :
    (Builtin.copy_ #[dT, sT] ty #[.slice (some ⟨g, o, none⟩) dLen dCap, .string s]).run P w =
      .ok (goInt s.size) (w.setRow g (cur.toList.take o ++ strCells s ++ cur.toList.drop (o + s.size)).toArray) := by
  have hl := strCells_length s
  have h1 : ∀ v ∈ strCells s, v.oneCell' = true := by
    intro v hv
    obtain ⟨b, _, rfl⟩ := List.mem_map.mp hv
    rfl
  have hst := run_storeCells_at P g o t (strCells s) 0 cur w hg (by simpa [hl] using hfit) h1
  have hmin : Nat.min s.size dLen = s.size := Nat.min_eq_left hn
  cases hq : P.info? elem with
  | none => simp [hq] at hs
  | some i =>
    have hi : i.size = 1 := by simpa [hq] using hs
    simp [Builtin.copy_, run_underlying hu, Builtin.lenOf, Builtin.firstCells, sizeOf, typeInfo, hq, hi, hmin]
    simp [strCells] at hst ⊢
    rw [List.take_of_length_le (by rw [List.length_map, Array.length_toList]; exact Nat.le_refl _), hst]
    rfl
theorem copy_string {P : Program} {w : World} {ops : Array Oper} {rest : List Oper} {o : Oper} {a : Act} {Q : Exit → Act → World → Prop} (hgd : o.guard = none) (d : Operand) (x : Operand) (dT sT : TypeId)
    (ho : o.op = .call { callee := .builtin .copy, args := #[d, x], argTypes := #[dT, sT] }) (elem : TypeId) (hu : P.underlying dT = some (.slice elem)) (hsz : (P.info? elem).map (·.size) = some 1)
    (g off dLen dCap : Nat) (s : ByteArray) (hd : a.eval d = .slice (some ⟨g, off, none⟩) dLen dCap) (hs : a.eval x = .string s)
    (cur : List Value) (t : TypeId) (hg : w.heap[g]? = some (.cells cur.toArray t (0, 0))) (hn : s.size ≤ dLen) (hfit : off + s.size ≤ cur.length) (B : Nat) (w0 : World) (hb : Below B w0 w) (hBg : B ≤ g)
    (h : ∀ w', w'.heap[g]? = some (.cells (splice cur off (strCells s)).toArray t (0, 0)) → (∀ k, k ≠ g → w'.heap[k]? = w.heap[k]?) → Below B w0 w' → wpList P ops Q rest (a.put o.dst (goInt s.size)) w') :
    wpList P ops Q (o :: rest) a w := by
  refine wpList_plain hgd fun K hK => ?_
  have hrun := run_copy_string (P := P) w dT sT o.type elem g off dLen dCap s cur.toArray t hu hsz hg hn (by simpa using hfit)
  unfold Oper.wp
  simp [execOp, ho, resolve, invoke, builtin, hd, hs, hrun, Result.andThen]
  refine hK _ _ (h _ ?_ (fun k hk => setRow_other w g k _ hk) (below_setRow hb hBg _))
  have h2 := setRow_heap w g cur.toArray (cur.take off ++ (strCells s ++ cur.drop (off + s.size))).toArray t (0, 0) hg
  rw [h2, splice, strCells_length]
def mark4 : List Int := [76, 86, 69, 69]
theorem mark_cells : strCells ⟨#[76, 86, 69, 69]⟩ = nums .u8 mark4 := by rfl
theorem nums_splice (l m : List Int) (off : Nat) : splice (nums .u8 l) off (nums .u8 m) = nums .u8 (splice l off m) := by
  simp [splice, nums, List.map_take, List.map_drop]
theorem splice_length (l m : List Int) (off : Nat) (h : off + m.length ≤ l.length) : (splice l off m).length = l.length := by simp [splice]; omega
theorem sl0 : (splice (List.replicate 256 0) 0 mark4).length = 256 := by
  rw [splice_length _ _ _ (by rw [List.length_replicate]; decide), List.length_replicate]
theorem sl1 {a0_0 : Int} : (splice (splice (List.replicate 256 0) 0 mark4) 4 (putV (IntKind.u64.wrap a0_0) 8)).length = 256 := by
  rw [splice_length _ _ _ (by rw [sl0, putV_length]; omega)]
  exact sl0
theorem sl2 {a0_0 a0_1 : Int} : (splice (splice (splice (List.replicate 256 0) 0 mark4) 4 (putV (IntKind.u64.wrap a0_0) 8)) 12 (putV (IntKind.u64.wrap a0_1) 2)).length = 256 := by
  rw [splice_length _ _ _ (by rw [sl1, putV_length]; omega)]
  exact sl1
theorem sl3 {a0_0 a0_1 a0_2 : Int} : (splice (splice (splice (splice (List.replicate 256 0) 0 mark4) 4 (putV (IntKind.u64.wrap a0_0) 8)) 12 (putV (IntKind.u64.wrap a0_1) 2)) 14 (putV (IntKind.u64.wrap a0_2) 2)).length = 256 := by
  rw [splice_length _ _ _ (by rw [sl2, putV_length]; omega)]
  exact sl2
theorem sl4 {a0_0 a0_1 a0_2 a0_3 : Int} : (splice (splice (splice (splice (splice (List.replicate 256 0) 0 mark4) 4 (putV (IntKind.u64.wrap a0_0) 8)) 12 (putV (IntKind.u64.wrap a0_1) 2)) 14 (putV (IntKind.u64.wrap a0_2) 2)) 16 (putV (IntKind.u64.wrap a0_3) 2)).length = 256 := by
  rw [splice_length _ _ _ (by rw [sl3, putV_length]; omega)]
  exact sl3
theorem sum_252 (g : Nat) (l : List Int) (hl : l.length = 256) (w : World) (hx : w.heap[g]? = some (.cells (nums .u8 l).toArray 54 (0, 0))) :
    Calls Try.prog 24 #[.slice (some ⟨g, 0, none⟩) 252 256] w fun e w' => e = .returned (.int .u32 (Crc.sum (l.take 252))) ∧ Below w.heap.size w w' := by
  have hr := R_of_block (k := .u8) (ok := fun _ => True) (base := 0) (xs := l.take 252) hx (Nat.zero_le _) (by rw [List.length_take, hl]; simp [nums, List.map_take]) (by rw [nums_length, hl]; decide) trivial
  have h2 := (Kd.R_reads' hr).2.2
  have hl2 : (l.take 252).length = 252 := by rw [List.length_take]; omega
  have h3 := sum_any _ 256 (l.take 252) w h2 (by omega) (by omega)
  rw [hl2] at h3
  exact h3
/-- A superblock's bytes, with its sum. -/
def superL (a0_0 a0_1 a0_2 a0_3 : Int) : List Int := splice (splice (splice (splice (splice (splice (List.replicate 256 0) 0 mark4) 4 (putV (IntKind.u64.wrap a0_0) 8)) 12 (putV (IntKind.u64.wrap a0_1) 2)) 14 (putV (IntKind.u64.wrap a0_2) 2)) 16 (putV (IntKind.u64.wrap a0_3) 2)) 252 (putV (IntKind.u64.wrap (Crc.sum ((splice (splice (splice (splice (splice (List.replicate 256 0) 0 mark4) 4 (putV (IntKind.u64.wrap a0_0) 8)) 12 (putV (IntKind.u64.wrap a0_1) 2)) 14 (putV (IntKind.u64.wrap a0_2) 2)) 16 (putV (IntKind.u64.wrap a0_3) 2)).take 252))) 4)
set_option maxRecDepth 100000 in
theorem sput_yes (k : Nat) (a0_0 a0_1 a0_2 a0_3 : Int) (w : World) (hR : super_Super_right.f k a0_0 a0_1 a0_2 a0_3 = some true) :
    Calls Try.prog 7 #[.agg #[.int .i64 a0_0, .int .i64 a0_1, .int .i64 a0_2, .int .i64 a0_3]] w fun e w' => ∃ g, e = .returned (.tuple #[.slice (some ⟨g, 0, none⟩) 256 256, .int .i64 0]) ∧ w'.heap[g]? = some (.cells (nums .u8 (superL a0_0 a0_1 a0_2 a0_3)).toArray 54 (0, 0)) ∧ w.heap.size ≤ g ∧ Below w.heap.size w w' := by
  have HR := Aside0.mk hR
  clear hR
  have hsz5 : (Try.prog.info? 5).map (·.size) = some 1 := by kernel_rfl
  go_enter Try.func7, Try.ntmps7
  go_wp2_with (first
    | ((with_reducible refine gate_dst (N := 1) rfl ?_); refine box_event ?hg (N := 1) ?hd (cs := #[.int .i64 a0_0, .int .i64 a0_1, .int .i64 a0_2, .int .i64 a0_3]) (t := 30) ?hr ?_; (case hd => rfl); (case hg => rfl); (case hr => first | (go_simp; done) | (go_simp; rfl)); intro g1 hg1 w1 hx1 hb1
       have c0 : w1.cell? ⟨g1, 0, none⟩ = some (.int .i64 a0_0) := (blk_cell hx1 0).trans rfl
       have c1 : w1.cell? ⟨g1, 1, none⟩ = some (.int .i64 a0_1) := (blk_cell hx1 1).trans rfl
       have c2 : w1.cell? ⟨g1, 2, none⟩ = some (.int .i64 a0_2) := (blk_cell hx1 2).trans rfl
       have c3 : w1.cell? ⟨g1, 3, none⟩ = some (.int .i64 a0_3) := (blk_cell hx1 3).trans rfl
       have HX1 := Aside0.mk hx1; have HB1 := Aside0.mk hb1; have HG1 := Aside0.mk hg1; clear hx1 hb1 hg1)
    | (go_at_call 22; refine (super_Super_right.calls k a0_0 a0_1 a0_2 a0_3 true _ HR.out).mono ?_; rintro e w2 ⟨rfl, hb2⟩; have HB2 := Aside0.mk hb2; clear hb2)
    | ((with_reducible refine gate_dst (N := 4) rfl ?_); refine box_event ?hg (N := 4) ?hd (cs := (nums .u8 (List.replicate 256 0)).toArray) (t := 54) ?hr ?_; (case hd => rfl); (case hg => rfl); (case hr => first | kernel_rfl | (go_simp; rfl)); intro g2 hg2 w3 hx3 hb3
       have hy3 := blk_below (blk_below HX1.out HB2.out) hb3
       have hc3 := below_step (below_step HB1.out HB2.out) hb3
       have l12 : g1 < g2 := by have h1 := blk_lt HX1.out; have h2 := HB2.out.size; omega
       have L := Aside0.mk (And.intro l12 (show w.heap.size ≤ g2 by have := HB1.out.size; have := HB2.out.size; omega))
       have HX := Aside0.mk hx3; have HY := Aside0.mk hy3; have HC := Aside0.mk hc3; clear hx3 hy3 hc3 hb3 hg2 l12 HX1 HB1 HB2 HG1)
    | ((with_reducible refine gate_builtin (b := .copy) (xs := #[.tmp 8, .const (.string ⟨#[76, 86, 69, 69]⟩)]) rfl ?_); go_loud (refine copy_string rfl (.tmp 8) (.const (.string ⟨#[76, 86, 69, 69]⟩)) 26 9 rfl 5 Try.underlying26 hsz5 g2 0 256 256 ⟨#[76, 86, 69, 69]⟩ rfl rfl (nums .u8 (List.replicate 256 0)) 54 HX.out (by decide) (by rw [nums_length]; decide) w.heap.size w HC.out L.out.2 ?_; intro w4 hx4 ho4 hb4; rw [mark_cells, nums_splice] at hx4; have hy4 := (ho4 g1 (by have := L.out; omega)).trans HY.out; clear HX HY HC ho4; have HX := Aside0.mk hx4; have HY := Aside0.mk hy4; have HC := Aside0.mk hb4; clear hx4 hy4 hb4)))
  refine wp_region_still_tail 4 (by kernel_rfl) (by kernel_rfl) ?_
  change wpStill _ _ (World.drew w4) (fun a' => wpList _ _ _ _ a' (World.drew w4)) _ _
  obtain ⟨v0, hv0⟩ : ∃ v, v = World.drew w4 := ⟨_, rfl⟩
  have hx := blk_drew HX.out
  have hy := blk_drew HY.out
  have hc := below_drew HC.out
  rw [← hv0] at hx hy hc ⊢
  have d0 : World.cell? v0 ⟨g1, 0, none⟩ = some (.int .i64 a0_0) := (blk_cell hy 0).trans rfl
  clear hv0 HX HY HC
  have HX := Aside0.mk hx
  have HY := Aside0.mk hy
  have HC := Aside0.mk hc
  clear hx hy hc
  simp only [List.take_succ_cons, List.take_zero, List.drop_succ_cons, List.drop_zero]
  iterate 4 still_step
  refine wpStill_nil ?_
  go_wp2_with (go_at_call 23; go_loud (refine (put_cells g2 4 8 252 (nums .u8 (splice (List.replicate 256 0) 0 mark4)) 54 (IntKind.u64.wrap a0_0) v0 HX.out (by rw [nums_length, sl0]; omega) (by omega)).mono ?_; rintro e x0 ⟨rfl, hx, hb⟩; rw [nums_splice] at hx; have hy := (hb.block g1 L.out.1).trans HY.out; have hc := below_weaken HC.out L.out.2 hb; clear HX HY HC hb d0; have HX := Aside0.mk hx; have HY := Aside0.mk hy; have HC := Aside0.mk hc; clear hx hy hc))
  refine wp_region_still_tail 5 (by kernel_rfl) (by kernel_rfl) ?_
  change wpStill _ _ (World.drew x0) (fun a' => wpList _ _ _ _ a' (World.drew x0)) _ _
  obtain ⟨v1, hv1⟩ : ∃ v, v = World.drew x0 := ⟨_, rfl⟩
  have hx := blk_drew HX.out
  have hy := blk_drew HY.out
  have hc := below_drew HC.out
  rw [← hv1] at hx hy hc ⊢
  have d1 : World.cell? v1 ⟨g1, 1, none⟩ = some (.int .i64 a0_1) := (blk_cell hy 1).trans rfl
  clear hv1 HX HY HC
  have HX := Aside0.mk hx
  have HY := Aside0.mk hy
  have HC := Aside0.mk hc
  clear hx hy hc
  simp only [List.take_succ_cons, List.take_zero, List.drop_succ_cons, List.drop_zero]
  iterate 5 still_step
  refine wpStill_nil ?_
  go_wp2_with (go_at_call 23; go_loud (refine (put_cells g2 12 2 244 (nums .u8 (splice (splice (List.replicate 256 0) 0 mark4) 4 (putV (IntKind.u64.wrap a0_0) 8))) 54 (IntKind.u64.wrap a0_1) v1 HX.out (by rw [nums_length, sl1]; omega) (by omega)).mono ?_; rintro e x1 ⟨rfl, hx, hb⟩; rw [nums_splice] at hx; have hy := (hb.block g1 L.out.1).trans HY.out; have hc := below_weaken HC.out L.out.2 hb; clear HX HY HC hb d1; have HX := Aside0.mk hx; have HY := Aside0.mk hy; have HC := Aside0.mk hc; clear hx hy hc))
  refine wp_region_still_tail 5 (by kernel_rfl) (by kernel_rfl) ?_
  change wpStill _ _ (World.drew x1) (fun a' => wpList _ _ _ _ a' (World.drew x1)) _ _
  obtain ⟨v2, hv2⟩ : ∃ v, v = World.drew x1 := ⟨_, rfl⟩
  have hx := blk_drew HX.out
  have hy := blk_drew HY.out
  have hc := below_drew HC.out
  rw [← hv2] at hx hy hc ⊢
  have d2 : World.cell? v2 ⟨g1, 2, none⟩ = some (.int .i64 a0_2) := (blk_cell hy 2).trans rfl
  clear hv2 HX HY HC
  have HX := Aside0.mk hx
  have HY := Aside0.mk hy
  have HC := Aside0.mk hc
  clear hx hy hc
  simp only [List.take_succ_cons, List.take_zero, List.drop_succ_cons, List.drop_zero]
  iterate 5 still_step
  refine wpStill_nil ?_
  go_wp2_with (go_at_call 23; go_loud (refine (put_cells g2 14 2 242 (nums .u8 (splice (splice (splice (List.replicate 256 0) 0 mark4) 4 (putV (IntKind.u64.wrap a0_0) 8)) 12 (putV (IntKind.u64.wrap a0_1) 2))) 54 (IntKind.u64.wrap a0_2) v2 HX.out (by rw [nums_length, sl2]; omega) (by omega)).mono ?_; rintro e x2 ⟨rfl, hx, hb⟩; rw [nums_splice] at hx; have hy := (hb.block g1 L.out.1).trans HY.out; have hc := below_weaken HC.out L.out.2 hb; clear HX HY HC hb d2; have HX := Aside0.mk hx; have HY := Aside0.mk hy; have HC := Aside0.mk hc; clear hx hy hc))
  refine wp_region_still_tail 5 (by kernel_rfl) (by kernel_rfl) ?_
  change wpStill _ _ (World.drew x2) (fun a' => wpList _ _ _ _ a' (World.drew x2)) _ _
  obtain ⟨v3, hv3⟩ : ∃ v, v = World.drew x2 := ⟨_, rfl⟩
  have hx := blk_drew HX.out
  have hy := blk_drew HY.out
  have hc := below_drew HC.out
  rw [← hv3] at hx hy hc ⊢
  have d3 : World.cell? v3 ⟨g1, 3, none⟩ = some (.int .i64 a0_3) := (blk_cell hy 3).trans rfl
  clear hv3 HX HY HC
  have HX := Aside0.mk hx
  have HY := Aside0.mk hy
  have HC := Aside0.mk hc
  clear hx hy hc
  simp only [List.take_succ_cons, List.take_zero, List.drop_succ_cons, List.drop_zero]
  iterate 5 still_step
  refine wpStill_nil ?_
  go_wp2_with (go_at_call 23; go_loud (refine (put_cells g2 16 2 240 (nums .u8 (splice (splice (splice (splice (List.replicate 256 0) 0 mark4) 4 (putV (IntKind.u64.wrap a0_0) 8)) 12 (putV (IntKind.u64.wrap a0_1) 2)) 14 (putV (IntKind.u64.wrap a0_2) 2))) 54 (IntKind.u64.wrap a0_3) v3 HX.out (by rw [nums_length, sl3]; omega) (by omega)).mono ?_; rintro e x3 ⟨rfl, hx, hb⟩; rw [nums_splice] at hx; have hy := (hb.block g1 L.out.1).trans HY.out; have hc := below_weaken HC.out L.out.2 hb; clear HX HY HC hb d3; have HX := Aside0.mk hx; have HY := Aside0.mk hy; have HC := Aside0.mk hc; clear hx hy hc))
  have hx := blk_drew HX.out
  have hy := blk_drew HY.out
  have hc := below_drew HC.out
  have XD := Aside0.mk hx
  have YD := Aside0.mk hy
  have CD := Aside0.mk hc
  clear hx hy hc
  go_region_with (first
    | (go_at_call 24; go_loud (refine (sum_252 g2 (splice (splice (splice (splice (splice (List.replicate 256 0) 0 mark4) 4 (putV (IntKind.u64.wrap a0_0) 8)) 12 (putV (IntKind.u64.wrap a0_1) 2)) 14 (putV (IntKind.u64.wrap a0_2) 2)) 16 (putV (IntKind.u64.wrap a0_3) 2)) sl4 _ ?_).mono ?_; exact XD.out; rintro e w7 ⟨rfl, hb⟩; have hx := blk_below XD.out hb; have hc := below_step CD.out hb; have XE := Aside0.mk hx; have CE := Aside0.mk hc; clear hx hc hb))
    | (go_at_call 23; go_loud (refine (put_cells g2 252 4 4 (nums .u8 (splice (splice (splice (splice (splice (List.replicate 256 0) 0 mark4) 4 (putV (IntKind.u64.wrap a0_0) 8)) 12 (putV (IntKind.u64.wrap a0_1) 2)) 14 (putV (IntKind.u64.wrap a0_2) 2)) 16 (putV (IntKind.u64.wrap a0_3) 2))) 54 _ w7 XE.out (by rw [nums_length, sl4]; omega) (by omega)).mono ?_; rintro e w8 ⟨rfl, hx, hb⟩; rw [nums_splice] at hx; have hc := below_weaken CE.out L.out.2 hb; have XF := Aside0.mk hx; have CF := Aside0.mk hc; clear hx hc hb)))
  go_wp2
  go_ret2
  exact ⟨g2, rfl, XF.out, L.out.2, CF.out⟩
set_option maxRecDepth 100000 in
theorem sput_no (k : Nat) (a0_0 a0_1 a0_2 a0_3 : Int) (w : World) (hR : super_Super_right.f k a0_0 a0_1 a0_2 a0_3 = some false) :
    Calls Try.prog 7 #[.agg #[.int .i64 a0_0, .int .i64 a0_1, .int .i64 a0_2, .int .i64 a0_3]] w fun e w' => e = .returned (.tuple #[.slice none 0 0, .int .i64 1]) ∧ Below w.heap.size w w' := by
  have HR := Aside0.mk hR
  clear hR
  go_enter Try.func7, Try.ntmps7
  go_wp2_with (first
    | ((with_reducible refine gate_dst (N := 1) rfl ?_); refine box_event ?hg (N := 1) ?hd (cs := #[.int .i64 a0_0, .int .i64 a0_1, .int .i64 a0_2, .int .i64 a0_3]) (t := 30) ?hr ?_; (case hd => rfl); (case hg => rfl); (case hr => first | (go_simp; done) | (go_simp; rfl)); intro g1 hg1 w1 hx1 hb1
       have c0 : w1.cell? ⟨g1, 0, none⟩ = some (.int .i64 a0_0) := (blk_cell hx1 0).trans rfl
       have c1 : w1.cell? ⟨g1, 1, none⟩ = some (.int .i64 a0_1) := (blk_cell hx1 1).trans rfl
       have c2 : w1.cell? ⟨g1, 2, none⟩ = some (.int .i64 a0_2) := (blk_cell hx1 2).trans rfl
       have c3 : w1.cell? ⟨g1, 3, none⟩ = some (.int .i64 a0_3) := (blk_cell hx1 3).trans rfl
       have HX1 := Aside0.mk hx1; have HB1 := Aside0.mk hb1; have HG1 := Aside0.mk hg1; clear hx1 hb1 hg1)
    | (go_at_call 22; refine (super_Super_right.calls k a0_0 a0_1 a0_2 a0_3 false _ HR.out).mono ?_; rintro e w2 ⟨rfl, hb2⟩; have HB2 := Aside0.mk hb2; clear hb2))
  go_ret2
  exact ⟨rfl, below_step HB1.out HB2.out⟩
theorem superL_length (a0_0 a0_1 a0_2 a0_3 : Int) : (superL a0_0 a0_1 a0_2 a0_3).length = 256 := by
  unfold superL
  rw [splice_length _ _ _ (by rw [sl4, putV_length]; omega)]
  exact sl4
def super_Put.f (k : Nat) (a0_0 a0_1 a0_2 a0_3 : Int) : Option (List Int × Int) := (super_Super_right.f k a0_0 a0_1 a0_2 a0_3).bind fun t => if t = true then some (superL a0_0 a0_1 a0_2 a0_3, 0) else some ([], 1)
theorem super_Put.mono : ∀ b0 b1 b2 b3 k, LeO (super_Put.f k b0 b1 b2 b3) (super_Put.f (k + 1) b0 b1 b2 b3) := by
  intro b0 b1 b2 b3 k
  exact LeO.bind (super_Super_right.mono _ _ _ _ _) (fun _ => LeO.refl _)
theorem super_Put.calls (k : Nat) (a0_0 a0_1 a0_2 a0_3 : Int) (r1 : List Int) (r2 : Int) (w : World) (h : super_Put.f k a0_0 a0_1 a0_2 a0_3 = some (r1, r2)) :
    Calls Try.prog 7 #[.agg #[.int .i64 a0_0, .int .i64 a0_1, .int .i64 a0_2, .int .i64 a0_3]] w fun e w' => ∃ v0_ : Value, e = .returned (.tuple #[v0_, .int .i64 r2]) ∧ Kd.R (Kd.int .u8) 54 w' w.heap.size (fun _ => True) v0_ r1 ∧ Below w.heap.size w w' := by
  unfold super_Put.f at h
  obtain ⟨t, ht, h⟩ := Option.bind_eq_some_iff.mp h
  cases t
  · rw [if_neg (by decide)] at h
    obtain ⟨rfl, rfl⟩ := Prod.mk.inj (Option.some.inj h)
    refine (sput_no k a0_0 a0_1 a0_2 a0_3 w ht).mono ?_
    rintro e w' ⟨rfl, hb⟩
    exact ⟨_, rfl, Kd.R_nil _ _ _ _ _, hb⟩
  · rw [if_pos rfl] at h
    obtain ⟨rfl, rfl⟩ := Prod.mk.inj (Option.some.inj h)
    refine (sput_yes k a0_0 a0_1 a0_2 a0_3 w ht).mono ?_
    rintro e w' ⟨g, rfl, hx, hg, hb⟩
    have hr := R_of_block (k := .u8) (ok := fun _ => True) (base := w.heap.size) (xs := superL a0_0 a0_1 a0_2 a0_3) hx hg (by rw [superL_length, List.take_of_length_le (by rw [nums_length, superL_length]; exact Nat.le_refl _)]) (by rw [nums_length, superL_length]; decide) trivial
    rw [nums_length, superL_length] at hr
    exact ⟨_, rfl, hr, hb⟩
end Go.Proofs.Ytjblkjknkemkdaa.P
