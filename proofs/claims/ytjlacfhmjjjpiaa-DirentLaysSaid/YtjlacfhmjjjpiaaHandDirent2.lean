/-
dirent.Put, Read, Lay and Room, walked by hand.
Conditions: none.
-/
import Derived.Test.YtjlacfhmjjjpiaaProg
import Derived.Below
import Derived.Deep.Draws
import Derived.Deep.AppendLies
import Derived.Maps.AppendAt
import Derived.OwnWalk
import Derived.Laws.BytesArg
import Derived.Laws.MakeOwn
import Derived.Laws.OwnMore
import Derived.Deep.OwnRows
import Derived.Tactics
import Derived.Lib.ConvBytes
import Derived.Laws.Slices
import Derived.WalkKit
import Derived.KernelRfl
import Derived.RowKit3
import Derived.Deep.LoopGhost
import Derived.Deep.QuietTactic
import Derived.BigQuiet
import Derived.WideLaws
import Derived.Deep.DeepCutAuto
import Derived.Deep.CutBlock
import Derived.Deep.RegionHeld3
import Derived.Laws.Rows
import Derived.Lib.AppendStr
import Derived.ArgAppend
import Derived.Laws.IdiomCopy
import Derived.OrdersHeld
import Derived.Laws.BitsLemmas
import Derived.RowKit
import Derived.Test.YtjlacfhmjjjpiaaWWords
import Derived.Test.YtjlacfhmjjjpiaaWLast
import Derived.Test.YtjlacfhmjjjpiaaWTab
import Derived.Test.YtjlacfhmjjjpiaaWFour
import Derived.Test.YtjlacfhmjjjpiaaWQPut
import Derived.Test.YtjlacfhmjjjpiaaWApart
import Derived.Test.YtjlacfhmjjjpiaaWArr
import Derived.Test.YtjlacfhmjjjpiaaWZeros
import Derived.Test.YtjlacfhmjjjpiaaWFoot
import Derived.Test.YtjlacfhmjjjpiaaWKept
import Derived.Test.YtjlacfhmjjjpiaaWShare
import Derived.Test.YtjlacfhmjjjpiaaWN
import Derived.Test.YtjlacfhmjjjpiaaWFootNe
import Derived.Test.YtjlacfhmjjjpiaaWAt
import Derived.Test.YtjlacfhmjjjpiaaWEqStruct
import Derived.Test.YtjlacfhmjjjpiaaWRepsOne
import Derived.Test.YtjlacfhmjjjpiaaWInv
import Derived.Test.YtjlacfhmjjjpiaaWInvWords
import Derived.Test.YtjlacfhmjjjpiaaWGuard
import Derived.Test.YtjlacfhmjjjpiaaWNEv
import Derived.Test.YtjlacfhmjjjpiaaWMore
import Derived.StillTailTactics
import Derived.Test.YtjlacfhmjjjpiaaHandDirent
import Derived.Test.YtjlacfhmjjjpiaaCopyString
import Derived.Test.YtjlacfhmjjjpiaaPx2
import Derived.Test.YtjlacfhmjjjpiaaPx4
import Derived.Test.YtjlacfhmjjjpiaaPx3
namespace Go.Proofs.Ytjlacfhmjjjpiaa.P
open Go.RowKit Go.Proofs.YtjlacfhmjjjpiaaW.PrintWords Go.Proofs.YtjlacfhmjjjpiaaW.PrintLast Go.Proofs.YtjlacfhmjjjpiaaW.PrintMore
attribute [local go_sem] max2_int min2_int max_two min_two max_three min_three max_four min_four
set_option linter.unusedVariables false
set_option linter.unusedSimpArgs false
theorem make_event {P : Program} {ops : Array Oper} {rest : List Oper} {o : Oper} {a : Act} {Q : Exit → Act → World → Prop} {W : World} (hgd : o.guard = none) {cs : Array Value} {t : TypeId} {n c : Nat}
    (hrun : (execOp a.eval o).run P W = .ok (.value (.slice (some ⟨W.heap.size, 0, none⟩) n c)) (W.alloc (.cells cs t (0, 0))))
    (h : ∀ g, g = W.heap.size → ∀ w1, w1.heap[g]? = some (.cells cs t (0, 0)) → Below W.heap.size W w1 → wpList P ops Q rest (a.put o.dst (.slice (some ⟨g, 0, none⟩) n c)) w1) : wpList P ops Q (o :: rest) a W :=
  Kd.event_run hgd hrun (h _ rfl _ (blk_new W _) (below_alloc (Below.refl _ _) _))
theorem nums_splice (l m : List Int) (off : Nat) : splice (nums .u8 l) off (nums .u8 m) = nums .u8 (splice l off m) := by
  simp [splice, nums, List.map_take, List.map_drop]
theorem splice_length (l m : List Int) (off : Nat) (h : off + m.length ≤ l.length) : (splice l off m).length = l.length := by simp [splice]; omega
theorem nums_set (l : List Int) (i : Nat) (v : Int) : (nums .u8 l).toArray.setIfInBounds i (.int .u8 v) = (nums .u8 (l.set i v)).toArray := by
  simp [nums, List.map_set]
theorem str_nums (s : ByteArray) : strCells s = nums .u8 (bytesOf s) := by
  simp [strCells, nums, bytesOf]
theorem loop_data (b : ByteArray) : ∀ (d i : Nat) (r : List UInt8), i + d = b.size → ByteArray.toList.loop b i r = r.reverse ++ b.data.toList.drop i
  | 0, i, r, h => by
    have hs : b.data.toList.length = b.size := by rw [Array.length_toList]; rfl
    rw [ByteArray.toList.loop, if_neg (by omega), List.drop_of_length_le (by omega), List.append_nil]
  | d + 1, i, r, h => by
    have hs : b.data.toList.length = b.size := by rw [Array.length_toList]; rfl
    rw [ByteArray.toList.loop, if_pos (by omega), loop_data b d (i + 1) _ (by omega)]
    have hi : i < b.data.toList.length := by omega
    rw [List.drop_eq_getElem_cons hi]
    simp only [List.reverse_cons, List.append_assoc, List.singleton_append]
    congr 2
    have h2 : i < b.data.size := by rw [← Array.length_toList]; omega
    simp only [ByteArray.get!, Array.getElem_toList]
    exact getElem!_pos b.data i h2
theorem toList_data (b : ByteArray) : b.toList = b.data.toList := by
  unfold ByteArray.toList
  rw [loop_data b b.size 0 [] (by omega)]
  rfl
/-- What can be put has a name of at most 24 bytes. -/
theorem right_size {k : Nat} {a : Int} {b : Bool} {s : ByteArray} (h : dirent_right.f k a b s = some true) : s.size ≤ 24 := by
  unfold dirent_right.f dirent_Name.f at h
  split at h
  · rename_i h0
    have h1 : (s.toList == ([] : List UInt8)) = true := by
      simp only [Bool.and_eq_true] at h0
      exact h0.2.2
    have h2 : s.toList = [] := by simpa using h1
    rw [toList_data] at h2
    have h3 : s.data.toList.length = 0 := by rw [h2]; rfl
    rw [data_length] at h3
    omega
  · split at h
    · split at h
      · rw [Option.bind_some] at h
        have h1 : nameS s = true := Option.some.inj h
        unfold nameS at h1
        simp only [Bool.and_eq_true, decide_eq_true_eq] at h1
        omega
      · cases h
    · cases h
/-- An entry's bytes, as they are laid. -/
def entL (a0_0 : Int) (a0_1 : Bool) (a0_2 : ByteArray) : List Int :=
  splice (List.set (if a0_1 = true then List.set (splice (List.replicate 32 0) 0 (putV (IntKind.u64.wrap a0_0) 2)) 2 1 else splice (List.replicate 32 0) 0 (putV (IntKind.u64.wrap a0_0) 2)) 3 ((a0_2.size : Int) % 256)) 4 (bytesOf a0_2)
theorem sl1 {a0_0 : Int} : (splice (List.replicate 32 0) 0 (putV (IntKind.u64.wrap a0_0) 2)).length = 32 := by
  rw [splice_length _ _ _ (by rw [List.length_replicate, putV_length]; decide), List.length_replicate]
theorem cell_num {w : World} {g : Nat} {t : TypeId} {l : List Int} (h : w.heap[g]? = some (.cells (nums .u8 l).toArray t (0, 0))) (i : Nat) (hi : i < l.length) : w.cell? ⟨g, i, none⟩ = some (.int .u8 (l.getD i 0)) := by
  rw [blk_cell h i]
  simp [nums, List.getElem?_eq_getElem hi]
set_option maxRecDepth 100000 in
theorem dput_no (k : Nat) (a0_0 : Int) (a0_1 : Bool) (a0_2 : ByteArray) (w : World) (hR : dirent_right.f k a0_0 a0_1 a0_2 = some false) :
    Calls Try.prog 6 #[.agg #[.int .i64 a0_0, .bool a0_1, .string a0_2]] w fun e w' => e = .returned (.tuple #[.slice none 0 0, .int .i64 1]) ∧ Below w.heap.size w w' := by
  have HR := Aside0.mk hR
  clear hR
  have huE := Try.underlying23
  go_enter Try.func6, Try.ntmps6
  go_wp2_with (first
    | ((with_reducible refine gate_dst (N := 1) rfl ?_); refine box_event ?hg (N := 1) ?hd (cs := #[.int .i64 a0_0, .bool a0_1, .string a0_2]) (t := 23) ?hr ?_; (case hd => rfl); (case hg => rfl); (case hr => first | (go_simp; done) | (go_simp; rfl)); intro g1 hg1 w1 hx1 hb1
       have c0 := (blk_cell hx1 0).trans (show _ = some (Value.int .i64 a0_0) from rfl); have c1 := (blk_cell hx1 1).trans (show _ = some (Value.bool a0_1) from rfl); have c2 := (blk_cell hx1 2).trans (show _ = some (Value.string a0_2) from rfl)
       have HX1 := Aside0.mk hx1; have HB1 := Aside0.mk hb1; have HG1 := Aside0.mk hg1; clear hx1 hb1 hg1)
    | (go_at_call 28; go_loud (refine (dirent_right.calls k a0_0 a0_1 a0_2 false _ HR.out).mono ?_; rintro e w2 ⟨rfl, hb2⟩; have HB2 := Aside0.mk hb2; clear hb2)))
  go_ret2
  exact ⟨rfl, below_step HB1.out HB2.out⟩
set_option maxHeartbeats 1000000 in
set_option maxRecDepth 100000 in
theorem dput_yes_true (k : Nat) (a0_0 : Int) (a0_2 : ByteArray) (w : World) (hR : dirent_right.f k a0_0 true a0_2 = some true) :
    Calls Try.prog 6 #[.agg #[.int .i64 a0_0, .bool true, .string a0_2]] w fun e w' => ∃ g, e = .returned (.tuple #[.slice (some ⟨g, 0, none⟩) 32 32, .int .i64 0]) ∧ w'.heap[g]? = some (.cells (nums .u8 (entL a0_0 true a0_2)).toArray 5 (0, 0)) ∧ w.heap.size ≤ g ∧ Below w.heap.size w w' := by
  have hsz := right_size hR
  have HR := Aside0.mk hR
  have HS := Aside0.mk hsz
  clear hR hsz
  have huE := Try.underlying23
  have hsz5 : (Try.prog.info? 5).map (·.size) = some 1 := by kernel_rfl
  have hmk : ∀ W : World, Sem.run Try.prog (Instr.makeSlice 24 (.int .i64 32) (.int .i64 32)) W = .ok (.slice (some ⟨W.heap.size, 0, none⟩) 32 32) (W.alloc (.cells (nums .u8 (List.replicate 32 0)).toArray 5 (0, 0))) := by
    have h := print_make (P := Try.prog) 24 5 .u8 1 Try.underlying24 info5 (by omega) 32 (by omega)
    simp only [made_eq] at h
    intro W
    exact h W
  go_enter Try.func6, Try.ntmps6
  go_wp2_with (first
    | ((with_reducible refine gate_dst (N := 1) rfl ?_); refine box_event ?hg (N := 1) ?hd (cs := #[.int .i64 a0_0, .bool true, .string a0_2]) (t := 23) ?hr ?_; (case hd => rfl); (case hg => rfl); (case hr => first | (go_simp; done) | (go_simp; rfl)); intro g1 hg1 w1 hx1 hb1
       have c0 := (blk_cell hx1 0).trans (show _ = some (Value.int .i64 a0_0) from rfl); have c1 := (blk_cell hx1 1).trans (show _ = some (Value.bool true) from rfl); have c2 := (blk_cell hx1 2).trans (show _ = some (Value.string a0_2) from rfl)
       have HX1 := Aside0.mk hx1; have HB1 := Aside0.mk hb1; have HG1 := Aside0.mk hg1; clear hx1 hb1 hg1)
    | (go_at_call 28; go_loud (refine (dirent_right.calls k a0_0 true a0_2 true _ HR.out).mono ?_; rintro e w2 ⟨rfl, hb2⟩; have HB2 := Aside0.mk hb2; clear hb2))
    | ((with_reducible refine gate_dst (N := 8) rfl ?_); refine make_event ?hg (cs := (nums .u8 (List.replicate 32 0)).toArray) (t := 5) (n := 32) (c := 32) ?hr ?_; (case hg => rfl); (case hr => first | (go_simp; done) | (go_simp; rfl)); intro g2 hg2 w3 hx3 hb3
       have hy3 := blk_below (blk_below HX1.out HB2.out) hb3
       have hc3 := below_step (below_step HB1.out HB2.out) hb3
       have l12 : g1 < g2 := by have h1 := blk_lt HX1.out; have h2 := HB2.out.size; omega
       have L := Aside0.mk (And.intro l12 (show w.heap.size ≤ g2 by have := HB1.out.size; have := HB2.out.size; omega))
       have HX := Aside0.mk hx3; have HY := Aside0.mk hy3; have HC := Aside0.mk hc3; clear hx3 hy3 hc3 hb3 hg2 l12 HX1 HB1 HB2 HG1))
  refine wp_region_still_tail 5 (by kernel_rfl) (by kernel_rfl) ?_
  change wpStill _ _ (World.drew w3) (fun a' => wpList _ _ _ _ a' (World.drew w3)) _ _
  obtain ⟨v0, hv0⟩ : ∃ v, v = World.drew w3 := ⟨_, rfl⟩
  have hx := blk_drew HX.out
  have hy := blk_drew HY.out
  have hc := below_drew HC.out
  rw [← hv0] at hx hy hc ⊢
  have d0 : World.cell? v0 ⟨g1, 0, none⟩ = some (.int .i64 a0_0) := (blk_cell hy 0).trans rfl; have d1 : World.cell? v0 ⟨g1, 1, none⟩ = some (.bool true) := (blk_cell hy 1).trans rfl; have d2 : World.cell? v0 ⟨g1, 2, none⟩ = some (.string a0_2) := (blk_cell hy 2).trans rfl
  clear hv0 HX HY HC
  have HX := Aside0.mk hx
  have HY := Aside0.mk hy
  have HC := Aside0.mk hc
  clear hx hy hc
  simp only [List.take_succ_cons, List.take_zero, List.drop_succ_cons, List.drop_zero]
  iterate 5 still_step
  refine wpStill_nil ?_
  go_wp2_with (go_at_call 29; go_loud (refine (put_cells g2 0 2 32 (nums .u8 (List.replicate 32 0)) 5 (IntKind.u64.wrap a0_0) v0 HX.out (by rw [nums_length]; simp) (by omega)).mono ?_; rintro e x0 ⟨rfl, hx, hb⟩; rw [nums_splice] at hx; have hy := (hb.block g1 L.out.1).trans HY.out; have hc := below_weaken HC.out L.out.2 hb; clear HX HY HC hb d0 d1 d2; have q0 : World.cell? x0 ⟨g1, 0, none⟩ = some (.int .i64 a0_0) := (blk_cell hy 0).trans rfl; have q1 : World.cell? x0 ⟨g1, 1, none⟩ = some (.bool true) := (blk_cell hy 1).trans rfl; have q2 : World.cell? x0 ⟨g1, 2, none⟩ = some (.string a0_2) := (blk_cell hy 2).trans rfl; have e2 := cell_num hx 2 (by rw [sl1]; decide); have e3 := cell_num hx 3 (by rw [sl1]; decide); have f2 := blk_frozen hx 2; have f3 := blk_frozen hx 3; have ne1 : g1 ≠ g2 := Nat.ne_of_lt L.out.1; have ne2 : g2 ≠ g1 := Ne.symm ne1; have HX := Aside0.mk hx; have HY := Aside0.mk hy; have HC := Aside0.mk hc; clear hx hy hc))
  have hx := ((blk_set (blk_set HX.out 2 (.int .u8 1)) 3 (.int .u8 ((a0_2.size : Int) % 256))))
  have hy := blk_far (blk_far HY.out (p := ⟨g2, 2, none⟩) (Nat.ne_of_lt L.out.1) (.int .u8 1)) (p := ⟨g2, 3, none⟩) (Nat.ne_of_lt L.out.1) (.int .u8 ((a0_2.size : Int) % 256))
  have hc : Below w.heap.size w ((x0.setCell ⟨g2, 2, none⟩ (.int .u8 1)).setCell ⟨g2, 3, none⟩ (.int .u8 ((a0_2.size : Int) % 256))) := below_set (below_set HC.out L.out.2) L.out.2
  simp only [nums_set] at hx
  obtain ⟨x1, hx1⟩ : ∃ v : World, v = (x0.setCell ⟨g2, 2, none⟩ (.int .u8 1)).setCell ⟨g2, 3, none⟩ (.int .u8 ((a0_2.size : Int) % 256)) := ⟨_, rfl⟩
  rw [← hx1] at hx hy hc ⊢
  clear hx1 HX HY HC q0 q1 q2 e2 e3 f2 f3 ne1 ne2
  have HX := Aside0.mk hx
  have HY := Aside0.mk hy
  have HC := Aside0.mk hc
  clear hx hy hc
  refine wp_region_still_tail 4 (by kernel_rfl) (by kernel_rfl) ?_
  change wpStill _ _ (World.drew x1) (fun a' => wpList _ _ _ _ a' (World.drew x1)) _ _
  obtain ⟨v1, hv0⟩ : ∃ v, v = World.drew x1 := ⟨_, rfl⟩
  have hx := blk_drew HX.out
  have hy := blk_drew HY.out
  have hc := below_drew HC.out
  rw [← hv0] at hx hy hc ⊢
  have d0 : World.cell? v1 ⟨g1, 0, none⟩ = some (.int .i64 a0_0) := (blk_cell hy 0).trans rfl; have d1 : World.cell? v1 ⟨g1, 1, none⟩ = some (.bool true) := (blk_cell hy 1).trans rfl; have d2 : World.cell? v1 ⟨g1, 2, none⟩ = some (.string a0_2) := (blk_cell hy 2).trans rfl
  clear hv0 HX HY HC
  have HX := Aside0.mk hx
  have HY := Aside0.mk hy
  have HC := Aside0.mk hc
  clear hx hy hc
  simp only [List.take_succ_cons, List.take_zero, List.drop_succ_cons, List.drop_zero]
  iterate 4 still_step
  refine wpStill_nil ?_
  go_wp2_with ((with_reducible refine gate_builtin (b := .copy) (xs := #[.tmp 26, .tmp 28]) rfl ?_); go_loud (refine copy_string rfl (.tmp 26) (.tmp 28) 24 9 rfl 5 Try.underlying24 hsz5 g2 4 28 28 a0_2 rfl rfl (nums .u8 (List.set (List.set (splice (List.replicate 32 0) 0 (putV (IntKind.u64.wrap a0_0) 2)) 2 1) 3 ((a0_2.size : Int) % 256))) 5 HX.out (by have := HS.out; omega) (by have := HS.out; rw [nums_length]; simp only [List.length_set, sl1]; omega) w.heap.size w HC.out L.out.2 ?_; intro w4 hx4 ho4 hb4; rw [str_nums, nums_splice] at hx4; clear HX HY HC ho4 d0 d1 d2; have HX := Aside0.mk hx4; have HC := Aside0.mk hb4; clear hx4 hb4))
  go_ret2
  exact ⟨g2, rfl, HX.out, L.out.2, HC.out⟩
set_option maxHeartbeats 1000000 in
set_option maxRecDepth 100000 in
theorem dput_yes_false (k : Nat) (a0_0 : Int) (a0_2 : ByteArray) (w : World) (hR : dirent_right.f k a0_0 false a0_2 = some true) :
    Calls Try.prog 6 #[.agg #[.int .i64 a0_0, .bool false, .string a0_2]] w fun e w' => ∃ g, e = .returned (.tuple #[.slice (some ⟨g, 0, none⟩) 32 32, .int .i64 0]) ∧ w'.heap[g]? = some (.cells (nums .u8 (entL a0_0 false a0_2)).toArray 5 (0, 0)) ∧ w.heap.size ≤ g ∧ Below w.heap.size w w' := by
  have hsz := right_size hR
  have HR := Aside0.mk hR
  have HS := Aside0.mk hsz
  clear hR hsz
  have huE := Try.underlying23
  have hsz5 : (Try.prog.info? 5).map (·.size) = some 1 := by kernel_rfl
  have hmk : ∀ W : World, Sem.run Try.prog (Instr.makeSlice 24 (.int .i64 32) (.int .i64 32)) W = .ok (.slice (some ⟨W.heap.size, 0, none⟩) 32 32) (W.alloc (.cells (nums .u8 (List.replicate 32 0)).toArray 5 (0, 0))) := by
    have h := print_make (P := Try.prog) 24 5 .u8 1 Try.underlying24 info5 (by omega) 32 (by omega)
    simp only [made_eq] at h
    intro W
    exact h W
  go_enter Try.func6, Try.ntmps6
  go_wp2_with (first
    | ((with_reducible refine gate_dst (N := 1) rfl ?_); refine box_event ?hg (N := 1) ?hd (cs := #[.int .i64 a0_0, .bool false, .string a0_2]) (t := 23) ?hr ?_; (case hd => rfl); (case hg => rfl); (case hr => first | (go_simp; done) | (go_simp; rfl)); intro g1 hg1 w1 hx1 hb1
       have c0 := (blk_cell hx1 0).trans (show _ = some (Value.int .i64 a0_0) from rfl); have c1 := (blk_cell hx1 1).trans (show _ = some (Value.bool false) from rfl); have c2 := (blk_cell hx1 2).trans (show _ = some (Value.string a0_2) from rfl)
       have HX1 := Aside0.mk hx1; have HB1 := Aside0.mk hb1; have HG1 := Aside0.mk hg1; clear hx1 hb1 hg1)
    | (go_at_call 28; go_loud (refine (dirent_right.calls k a0_0 false a0_2 true _ HR.out).mono ?_; rintro e w2 ⟨rfl, hb2⟩; have HB2 := Aside0.mk hb2; clear hb2))
    | ((with_reducible refine gate_dst (N := 8) rfl ?_); refine make_event ?hg (cs := (nums .u8 (List.replicate 32 0)).toArray) (t := 5) (n := 32) (c := 32) ?hr ?_; (case hg => rfl); (case hr => first | (go_simp; done) | (go_simp; rfl)); intro g2 hg2 w3 hx3 hb3
       have hy3 := blk_below (blk_below HX1.out HB2.out) hb3
       have hc3 := below_step (below_step HB1.out HB2.out) hb3
       have l12 : g1 < g2 := by have h1 := blk_lt HX1.out; have h2 := HB2.out.size; omega
       have L := Aside0.mk (And.intro l12 (show w.heap.size ≤ g2 by have := HB1.out.size; have := HB2.out.size; omega))
       have HX := Aside0.mk hx3; have HY := Aside0.mk hy3; have HC := Aside0.mk hc3; clear hx3 hy3 hc3 hb3 hg2 l12 HX1 HB1 HB2 HG1))
  refine wp_region_still_tail 5 (by kernel_rfl) (by kernel_rfl) ?_
  change wpStill _ _ (World.drew w3) (fun a' => wpList _ _ _ _ a' (World.drew w3)) _ _
  obtain ⟨v0, hv0⟩ : ∃ v, v = World.drew w3 := ⟨_, rfl⟩
  have hx := blk_drew HX.out
  have hy := blk_drew HY.out
  have hc := below_drew HC.out
  rw [← hv0] at hx hy hc ⊢
  have d0 : World.cell? v0 ⟨g1, 0, none⟩ = some (.int .i64 a0_0) := (blk_cell hy 0).trans rfl; have d1 : World.cell? v0 ⟨g1, 1, none⟩ = some (.bool false) := (blk_cell hy 1).trans rfl; have d2 : World.cell? v0 ⟨g1, 2, none⟩ = some (.string a0_2) := (blk_cell hy 2).trans rfl
  clear hv0 HX HY HC
  have HX := Aside0.mk hx
  have HY := Aside0.mk hy
  have HC := Aside0.mk hc
  clear hx hy hc
  simp only [List.take_succ_cons, List.take_zero, List.drop_succ_cons, List.drop_zero]
  iterate 5 still_step
  refine wpStill_nil ?_
  go_wp2_with (go_at_call 29; go_loud (refine (put_cells g2 0 2 32 (nums .u8 (List.replicate 32 0)) 5 (IntKind.u64.wrap a0_0) v0 HX.out (by rw [nums_length]; simp) (by omega)).mono ?_; rintro e x0 ⟨rfl, hx, hb⟩; rw [nums_splice] at hx; have hy := (hb.block g1 L.out.1).trans HY.out; have hc := below_weaken HC.out L.out.2 hb; clear HX HY HC hb d0 d1 d2; have q0 : World.cell? x0 ⟨g1, 0, none⟩ = some (.int .i64 a0_0) := (blk_cell hy 0).trans rfl; have q1 : World.cell? x0 ⟨g1, 1, none⟩ = some (.bool false) := (blk_cell hy 1).trans rfl; have q2 : World.cell? x0 ⟨g1, 2, none⟩ = some (.string a0_2) := (blk_cell hy 2).trans rfl; have e2 := cell_num hx 2 (by rw [sl1]; decide); have e3 := cell_num hx 3 (by rw [sl1]; decide); have f2 := blk_frozen hx 2; have f3 := blk_frozen hx 3; have ne1 : g1 ≠ g2 := Nat.ne_of_lt L.out.1; have ne2 : g2 ≠ g1 := Ne.symm ne1; have HX := Aside0.mk hx; have HY := Aside0.mk hy; have HC := Aside0.mk hc; clear hx hy hc))
  have hx := (blk_set HX.out 3 (.int .u8 ((a0_2.size : Int) % 256)))
  have hy := blk_far HY.out (p := ⟨g2, 3, none⟩) (Nat.ne_of_lt L.out.1) (.int .u8 ((a0_2.size : Int) % 256))
  have hc : Below w.heap.size w (x0.setCell ⟨g2, 3, none⟩ (.int .u8 ((a0_2.size : Int) % 256))) := below_set HC.out L.out.2
  simp only [nums_set] at hx
  obtain ⟨x1, hx1⟩ : ∃ v : World, v = x0.setCell ⟨g2, 3, none⟩ (.int .u8 ((a0_2.size : Int) % 256)) := ⟨_, rfl⟩
  rw [← hx1] at hx hy hc ⊢
  clear hx1 HX HY HC q0 q1 q2 e2 e3 f2 f3 ne1 ne2
  have HX := Aside0.mk hx
  have HY := Aside0.mk hy
  have HC := Aside0.mk hc
  clear hx hy hc
  refine wp_region_still_tail 4 (by kernel_rfl) (by kernel_rfl) ?_
  change wpStill _ _ (World.drew x1) (fun a' => wpList _ _ _ _ a' (World.drew x1)) _ _
  obtain ⟨v1, hv0⟩ : ∃ v, v = World.drew x1 := ⟨_, rfl⟩
  have hx := blk_drew HX.out
  have hy := blk_drew HY.out
  have hc := below_drew HC.out
  rw [← hv0] at hx hy hc ⊢
  have d0 : World.cell? v1 ⟨g1, 0, none⟩ = some (.int .i64 a0_0) := (blk_cell hy 0).trans rfl; have d1 : World.cell? v1 ⟨g1, 1, none⟩ = some (.bool false) := (blk_cell hy 1).trans rfl; have d2 : World.cell? v1 ⟨g1, 2, none⟩ = some (.string a0_2) := (blk_cell hy 2).trans rfl
  clear hv0 HX HY HC
  have HX := Aside0.mk hx
  have HY := Aside0.mk hy
  have HC := Aside0.mk hc
  clear hx hy hc
  simp only [List.take_succ_cons, List.take_zero, List.drop_succ_cons, List.drop_zero]
  iterate 4 still_step
  refine wpStill_nil ?_
  go_wp2_with ((with_reducible refine gate_builtin (b := .copy) (xs := #[.tmp 26, .tmp 28]) rfl ?_); go_loud (refine copy_string rfl (.tmp 26) (.tmp 28) 24 9 rfl 5 Try.underlying24 hsz5 g2 4 28 28 a0_2 rfl rfl (nums .u8 (List.set (splice (List.replicate 32 0) 0 (putV (IntKind.u64.wrap a0_0) 2)) 3 ((a0_2.size : Int) % 256))) 5 HX.out (by have := HS.out; omega) (by have := HS.out; rw [nums_length]; simp only [List.length_set, sl1]; omega) w.heap.size w HC.out L.out.2 ?_; intro w4 hx4 ho4 hb4; rw [str_nums, nums_splice] at hx4; clear HX HY HC ho4 d0 d1 d2; have HX := Aside0.mk hx4; have HC := Aside0.mk hb4; clear hx4 hb4))
  go_ret2
  exact ⟨g2, rfl, HX.out, L.out.2, HC.out⟩
theorem flag_length (a0_0 : Int) (b : Bool) : (if b = true then List.set (splice (List.replicate 32 0) 0 (putV (IntKind.u64.wrap a0_0) 2)) 2 1 else splice (List.replicate 32 0) 0 (putV (IntKind.u64.wrap a0_0) 2)).length = 32 := by
  cases b
  · rw [if_neg (by decide)]; exact sl1
  · rw [if_pos rfl, List.length_set]; exact sl1
theorem entL_length (a0_0 : Int) (a0_1 : Bool) (a0_2 : ByteArray) (h : a0_2.size ≤ 28) : (entL a0_0 a0_1 a0_2).length = 32 := by
  unfold entL
  rw [splice_length _ _ _ (by rw [List.length_set, bytesOf_length, flag_length]; omega), List.length_set, flag_length]
def dirent_Put.f (k : Nat) (a0_0 : Int) (a0_1 : Bool) (a0_2 : ByteArray) : Option (List Int × Int) := (dirent_right.f k a0_0 a0_1 a0_2).bind fun t => if t = true then some (entL a0_0 a0_1 a0_2, 0) else some ([], 1)
theorem dirent_Put.mono : ∀ b0 b1 b2 k, LeO (dirent_Put.f k b0 b1 b2) (dirent_Put.f (k + 1) b0 b1 b2) := by
  intro b0 b1 b2 k
  exact LeO.bind (dirent_right.mono _ _ _ _) (fun _ => LeO.refl _)
theorem dirent_Put.calls (k : Nat) (a0_0 : Int) (a0_1 : Bool) (a0_2 : ByteArray) (r1 : List Int) (r2 : Int) (w : World) (h : dirent_Put.f k a0_0 a0_1 a0_2 = some (r1, r2)) :
    Calls Try.prog 6 #[.agg #[.int .i64 a0_0, .bool a0_1, .string a0_2]] w fun e w' => ∃ v0_ : Value, e = .returned (.tuple #[v0_, .int .i64 r2]) ∧ Kd.R (Kd.int .u8) 5 w' w.heap.size (fun _ => True) v0_ r1 ∧ Below w.heap.size w w' := by
  unfold dirent_Put.f at h
  obtain ⟨t, ht, h⟩ := Option.bind_eq_some_iff.mp h
  cases t
  · rw [if_neg (by decide)] at h
    obtain ⟨rfl, rfl⟩ := Prod.mk.inj (Option.some.inj h)
    refine (dput_no k a0_0 a0_1 a0_2 w ht).mono ?_
    rintro e w' ⟨rfl, hb⟩
    exact ⟨_, rfl, Kd.R_nil _ _ _ _ _, hb⟩
  · rw [if_pos rfl] at h
    obtain ⟨rfl, rfl⟩ := Prod.mk.inj (Option.some.inj h)
    have hsz := right_size ht
    have hlen := entL_length a0_0 a0_1 a0_2 (by omega)
    have hy : Calls Try.prog 6 #[.agg #[.int .i64 a0_0, .bool a0_1, .string a0_2]] w fun e w' => ∃ g, e = .returned (.tuple #[.slice (some ⟨g, 0, none⟩) 32 32, .int .i64 0]) ∧ w'.heap[g]? = some (.cells (nums .u8 (entL a0_0 a0_1 a0_2)).toArray 5 (0, 0)) ∧ w.heap.size ≤ g ∧ Below w.heap.size w w' := by
      cases a0_1
      · exact dput_yes_false k a0_0 a0_2 w ht
      · exact dput_yes_true k a0_0 a0_2 w ht
    refine hy.mono ?_
    rintro e w' ⟨g, rfl, hx, hg, hb⟩
    have hr := R_of_block (k := .u8) (ok := fun _ => True) (base := w.heap.size) (xs := entL a0_0 a0_1 a0_2) hx hg (by rw [hlen, List.take_of_length_le (by rw [nums_length, hlen]; exact Nat.le_refl _)]) (by rw [nums_length, hlen]; decide) trivial
    rw [nums_length, hlen] at hr
    exact ⟨_, rfl, hr, hb⟩
theorem put3 {w : World} {g : Nat} {t : TypeId} {a0 a1 a2 : Value} (b0 b1 b2 : Value) (h : w.heap[g]? = some (.cells #[a0, a1, a2] t (0, 0))) : (((w.setCell ⟨g, 0, none⟩ b0).setCell ⟨g, 1, none⟩ b1).setCell ⟨g, 2, none⟩ b2).heap[g]? = some (.cells #[b0, b1, b2] t (0, 0)) := by
  refine blk_put (cs := #[b0, b1, a2]) ?_ 2 _ rfl
  refine blk_put (cs := #[b0, a1, a2]) ?_ 1 _ rfl
  refine blk_put (cs := #[a0, a1, a2]) ?_ 0 _ rfl
  exact h
theorem far3 {w : World} {g g' : Nat} {t : TypeId} {cs : Array Value} (b0 b1 b2 : Value) (h : w.heap[g']? = some (.cells cs t (0, 0))) (hne : g' ≠ g) : (((w.setCell ⟨g, 0, none⟩ b0).setCell ⟨g, 1, none⟩ b1).setCell ⟨g, 2, none⟩ b2).heap[g']? = some (.cells cs t (0, 0)) := by
  refine blk_far ?_ (p := ⟨g, 2, none⟩) hne _
  refine blk_far ?_ (p := ⟨g, 1, none⟩) hne _
  exact blk_far h (p := ⟨g, 0, none⟩) hne _
theorem below3 {w0 w : World} {g : Nat} (b0 b1 b2 : Value) (h : Below w0.heap.size w0 w) (hg : w0.heap.size ≤ g) : Below w0.heap.size w0 (((w.setCell ⟨g, 0, none⟩ b0).setCell ⟨g, 1, none⟩ b1).setCell ⟨g, 2, none⟩ b2) :=
  below_set (below_set (below_set h hg) hg) hg
theorem dget_n (k : Nat) (A : Option Addr) (c n : Nat) (l : List Int) (r1 : Int) (r2 : Bool) (r3 : ByteArray) (r4 : Int) (w : World) (hn : l.length = n) (hC : Kd.C (Kd.int .u8) w A n l) (hc : n ≤ c) (h : dirent_Get.f k l = some (r1, r2, r3, r4)) :
    Calls Try.prog 9 #[.slice A n c] w fun e w' => e = .returned (.tuple #[.agg #[.int .i64 r1, .bool r2, .string r3], .int .i64 r4]) ∧ Below w.heap.size w w' := by
  subst hn
  exact dirent_Get.calls k A c l r1 r2 r3 r4 w hC hc h
theorem zero_n (k : Nat) (A : Option Addr) (c n : Nat) (l : List Int) (r : Bool) (w : World) (hn : l.length = n) (hC : Kd.C (Kd.int .u8) w A n l) (hc : n ≤ c) (h : num_Zero.f k l = some r) :
    Calls Try.prog 32 #[.slice A n c] w fun e w' => e = .returned (.bool r) ∧ Below w.heap.size w w' := by
  subst hn
  exact (num_Zero.calls k A c l r w hC hc h).mono fun e w' h => ⟨h.1, h.2.below⟩
theorem dread_no (A0 : Option Addr) (c0 n : Nat) (p ev : Int) (w : World) (he : ev ≠ 0) (hat : ∀ w, Calls Try.prog 35 #[.slice A0 n c0, .int .i64 p] w fun e w' => e = .returned (.tuple #[.slice none 0 0, .int .i64 ev]) ∧ w' = w) :
    Calls Try.prog 17 #[.slice A0 n c0, .int .i64 p] w fun e w' => e = .returned (.tuple #[.agg #[.int .i64 0, .bool false, .string (⟨#[]⟩ : ByteArray)], .int .i64 ev]) ∧ Below w.heap.size w w' := by
  have e0 : (ev == 0) = false := beq_eq_false_iff_ne.mpr he
  have e1 : (ev != 0) = true := bne_iff_ne.mpr he
  clear he
  have huE := Try.underlying23
  go_enter Try.func17, Try.ntmps17
  go_wp2_with (first
    | ((with_reducible refine gate_dst (N := 4) rfl ?_); refine box_event ?hg (N := 4) ?hd (cs := #[.int .i64 0, .bool false, .string (⟨#[]⟩ : ByteArray)]) (t := 23) ?hr ?_; (case hd => rfl); (case hg => rfl); (case hr => first | (go_simp; done) | (go_simp; rfl)); intro g4 hg4 w1 hx hb; have B4 := Aside0.mk hx; have HB := Aside0.mk hb; have HG := Aside0.mk (show w.heap.size ≤ g4 by omega); clear hx hb hg4; have fa0 := blk_frozen B4.out 0; have fa1 := blk_frozen B4.out 1; have fa2 := blk_frozen B4.out 2; have za0 := (blk_cell B4.out 0).trans (show _ = some (Value.int .i64 0) from rfl); have za1 := (blk_cell B4.out 1).trans (show _ = some (Value.bool false) from rfl); have za2 := (blk_cell B4.out 2).trans (show _ = some (Value.string (⟨#[]⟩ : ByteArray)) from rfl))
    | (go_at_call 35; go_loud (refine (hat _).mono ?_; rintro e w2 ⟨rfl, rfl⟩)))
  refine bodyPost_ret (results_ct rfl _ _ g4 23 #[.int .i64 0, .bool false, .string (⟨#[]⟩ : ByteArray)] (0, 0) _ rfl (put3 _ _ _ B4.out) Try.underlying23 rfl (by kernel_rfl)) rfl ?_
  exact ⟨rfl, below3 _ _ _ HB.out HG.out⟩
theorem dread_yes (k : Nat) (A0 : Option Addr) (c0 n : Nat) (p : Int) (A : Option Addr) (c : Nat) (l : List Int) (r1 : Int) (r2 : Bool) (r3 : ByteArray) (r4 : Int) (w : World) (hat : ∀ w, Calls Try.prog 35 #[.slice A0 n c0, .int .i64 p] w fun e w' => e = .returned (.tuple #[.slice A 32 c, .int .i64 0]) ∧ w' = w) (hC : Kd.C (Kd.int .u8) w A 32 l) (hl : l.length = 32) (hc : 32 ≤ c) (h : dirent_Get.f k l = some (r1, r2, r3, r4)) :
    Calls Try.prog 17 #[.slice A0 n c0, .int .i64 p] w fun e w' => e = .returned (.tuple #[.agg #[.int .i64 r1, .bool r2, .string r3], .int .i64 r4]) ∧ Below w.heap.size w w' := by
  have huE := Try.underlying23
  have HC := Aside0.mk hC
  have HL := Aside0.mk hl
  have HK := Aside0.mk hc
  have H := Aside0.mk h
  clear hC hl hc h
  go_enter Try.func17, Try.ntmps17
  go_wp2_with (first
    | ((with_reducible refine gate_dst (N := 4) rfl ?_); refine box_event ?hg (N := 4) ?hd (cs := #[.int .i64 0, .bool false, .string (⟨#[]⟩ : ByteArray)]) (t := 23) ?hr ?_; (case hd => rfl); (case hg => rfl); (case hr => first | (go_simp; done) | (go_simp; rfl)); intro g4 hg4 w1 hx hb; have B4 := Aside0.mk hx; have HB := Aside0.mk hb; have HG := Aside0.mk (show w.heap.size ≤ g4 by omega); clear hx hb hg4; have fa0 := blk_frozen B4.out 0; have fa1 := blk_frozen B4.out 1; have fa2 := blk_frozen B4.out 2; have za0 := (blk_cell B4.out 0).trans (show _ = some (Value.int .i64 0) from rfl); have za1 := (blk_cell B4.out 1).trans (show _ = some (Value.bool false) from rfl); have za2 := (blk_cell B4.out 2).trans (show _ = some (Value.string (⟨#[]⟩ : ByteArray)) from rfl))
    | (go_at_call 35; go_loud (refine (hat _).mono ?_; rintro e w2 ⟨rfl, rfl⟩))
    | (go_at_call 9; go_loud (refine (dget_n k A c 32 l r1 r2 r3 r4 _ HL.out (Kd.C_below HC.out HB.out) HK.out H.out).mono ?_; rintro e w3 ⟨rfl, hb⟩; have B5 := Aside0.mk (blk_below B4.out hb); have HB5 := Aside0.mk (below_step HB.out hb); clear hb; have fb0 := blk_frozen B5.out 0; have fb1 := blk_frozen B5.out 1; have fb2 := blk_frozen B5.out 2; have zb0 := (blk_cell B5.out 0).trans (show _ = some (Value.int .i64 0) from rfl); have zb1 := (blk_cell B5.out 1).trans (show _ = some (Value.bool false) from rfl); have zb2 := (blk_cell B5.out 2).trans (show _ = some (Value.string (⟨#[]⟩ : ByteArray)) from rfl))))
  refine bodyPost_ret (results_ct rfl _ _ g4 23 #[.int .i64 r1, .bool r2, .string r3] (0, 0) _ rfl (put3 _ _ _ B5.out) Try.underlying23 rfl (by kernel_rfl)) rfl ?_
  exact ⟨rfl, below3 _ _ _ HB5.out HG.out⟩
def dirent_Read.f (k : Nat) (l0 : List Int) (p : Int) : Option (Int × Bool × ByteArray × Int) := if l0.length = 256 then (if 0 ≤ p ∧ p < 8 then dirent_Get.f k (cut32 l0 p) else some (0, false, ⟨#[]⟩, 3)) else some (0, false, ⟨#[]⟩, 4)
theorem dirent_Read.mono : ∀ b0 b1 k, LeO (dirent_Read.f k b0 b1) (dirent_Read.f (k + 1) b0 b1) := by
  intro b0 b1 k
  exact LeO.ite (LeO.ite (dirent_Get.mono _ _) (LeO.refl _)) (LeO.refl _)
theorem dirent_Read.calls (k : Nat) (A0 : Option Addr) (c0 : Nat) (l0 : List Int) (a1 : Int) (r1 : Int) (r2 : Bool) (r3 : ByteArray) (r4 : Int) (w : World) (hr0 : Kd.C (Kd.int .u8) w A0 l0.length l0) (hc0 : l0.length ≤ c0) (h : dirent_Read.f k l0 a1 = some (r1, r2, r3, r4)) :
    Calls Try.prog 17 #[.slice A0 l0.length c0, .int .i64 a1] w fun e w' => e = .returned (.tuple #[.agg #[.int .i64 r1, .bool r2, .string r3], .int .i64 r4]) ∧ Below w.heap.size w w' := by
  unfold dirent_Read.f at h
  by_cases hl : l0.length = 256
  · rw [if_pos hl] at h
    by_cases hp : 0 ≤ a1 ∧ a1 < 8
    · rw [if_pos hp] at h
      obtain ⟨A, c, hat, hC, hlen, hcap⟩ := at_ok A0 c0 l0 a1 hl hc0 hp.1 hp.2
      exact dread_yes k A0 c0 l0.length a1 A c _ r1 r2 r3 r4 w hat (hC w hr0) hlen hcap h
    · rw [if_neg hp] at h
      cases h
      exact dread_no A0 c0 l0.length a1 3 w (by decide) (fun w => at_range A0 c0 l0.length a1 w hl hp)
  · rw [if_neg hl] at h
    cases h
    exact dread_no A0 c0 l0.length a1 4 w (by decide) (fun w => at_size A0 c0 l0.length a1 w hl)
theorem dlay_at (A0 : Option Addr) (c0 n : Nat) (p ev a : Int) (b : Bool) (s : ByteArray) (w : World) (he : ev ≠ 0) (hat : ∀ w, Calls Try.prog 35 #[.slice A0 n c0, .int .i64 p] w fun e w' => e = .returned (.tuple #[.slice none 0 0, .int .i64 ev]) ∧ w' = w) :
    Calls Try.prog 15 #[.slice A0 n c0, .int .i64 p, .agg #[.int .i64 a, .bool b, .string s]] w fun e w' => e = .returned (.tuple #[.slice none 0 0, .int .i64 ev]) ∧ Below w.heap.size w w' := by
  have e0 : (ev == 0) = false := beq_eq_false_iff_ne.mpr he
  have e1 : (ev != 0) = true := bne_iff_ne.mpr he
  clear he
  have huE := Try.underlying23
  go_enter Try.func15, Try.ntmps15
  go_wp2_with (first
    | ((with_reducible refine gate_dst (N := 5) rfl ?_); refine box_event ?hg (N := 5) ?hd (cs := #[.int .i64 a, .bool b, .string s]) (t := 23) ?hr ?_; (case hd => rfl); (case hg => rfl); (case hr => first | (go_simp; done) | (go_simp; rfl)); intro g5 hg5 w1 hx hb; have k0 := (blk_cell hx 0).trans (show _ = some (Value.int .i64 a) from rfl); have k1 := (blk_cell hx 1).trans (show _ = some (Value.bool b) from rfl); have k2 := (blk_cell hx 2).trans (show _ = some (Value.string s) from rfl); have HB := Aside0.mk hb; clear hx hb hg5)
    | (go_at_call 35; go_loud (refine (hat _).mono ?_; rintro e w2 ⟨rfl, rfl⟩)))
  go_ret2
  exact ⟨rfl, HB.out⟩
theorem dlay_put (k : Nat) (A0 : Option Addr) (c0 n : Nat) (p a : Int) (b : Bool) (s : ByteArray) (A : Option Addr) (c : Nat) (x1 : List Int) (x2 : Int) (w : World) (hat : ∀ w, Calls Try.prog 35 #[.slice A0 n c0, .int .i64 p] w fun e w' => e = .returned (.tuple #[.slice A 32 c, .int .i64 0]) ∧ w' = w) (hP : dirent_Put.f k a b s = some (x1, x2)) (hx : x2 ≠ 0) :
    Calls Try.prog 15 #[.slice A0 n c0, .int .i64 p, .agg #[.int .i64 a, .bool b, .string s]] w fun e w' => e = .returned (.tuple #[.slice none 0 0, .int .i64 x2]) ∧ Below w.heap.size w w' := by
  have e0 : (x2 == 0) = false := beq_eq_false_iff_ne.mpr hx
  have e1 : (x2 != 0) = true := bne_iff_ne.mpr hx
  have HP := Aside0.mk hP
  clear hx hP
  have huE := Try.underlying23
  go_enter Try.func15, Try.ntmps15
  go_wp2_with (first
    | ((with_reducible refine gate_dst (N := 5) rfl ?_); refine box_event ?hg (N := 5) ?hd (cs := #[.int .i64 a, .bool b, .string s]) (t := 23) ?hr ?_; (case hd => rfl); (case hg => rfl); (case hr => first | (go_simp; done) | (go_simp; rfl)); intro g5 hg5 w1 hx hb; have k0 := (blk_cell hx 0).trans (show _ = some (Value.int .i64 a) from rfl); have k1 := (blk_cell hx 1).trans (show _ = some (Value.bool b) from rfl); have k2 := (blk_cell hx 2).trans (show _ = some (Value.string s) from rfl); have HB := Aside0.mk hb; clear hx hb hg5)
    | (go_at_call 35; go_loud (refine (hat _).mono ?_; rintro e w2 ⟨rfl, rfl⟩))
    | (go_at_call 6; go_loud (refine (dirent_Put.calls k a b s x1 _ _ HP.out).mono ?_; rintro e w3 ⟨v3, rfl, hr, hb⟩; obtain ⟨A3, c3, rfl, hlen3, hC3⟩ := Kd.R_reads hr; have HC3 := Aside0.mk hC3; have HK3 := Aside0.mk hlen3; have HB3 := Aside0.mk (below_step HB.out hb); clear hr hb hC3 hlen3)))
  go_ret2
  exact ⟨rfl, HB3.out⟩
theorem dlay_yes (k : Nat) (A0 : Option Addr) (c0 : Nat) (l0 : List Int) (p a : Int) (b : Bool) (s : ByteArray) (A : Option Addr) (c : Nat) (x1 : List Int) (r1 : List Int) (r2 : Int) (w : World) (hp0 : 0 ≤ p) (hp1 : p ≤ 7) (hr0 : Kd.C (Kd.int .u8) w A0 l0.length l0) (hc0 : l0.length ≤ c0) (hat : ∀ w, Calls Try.prog 35 #[.slice A0 l0.length c0, .int .i64 p] w fun e w' => e = .returned (.tuple #[.slice A 32 c, .int .i64 0]) ∧ w' = w) (hP : dirent_Put.f k a b s = some (x1, 0)) (hL : num_Lay.f l0 (p * 32) x1 = some (r1, r2)) :
    Calls Try.prog 15 #[.slice A0 l0.length c0, .int .i64 p, .agg #[.int .i64 a, .bool b, .string s]] w fun e w' => ∃ v0_ : Value, e = .returned (.tuple #[v0_, .int .i64 r2]) ∧ Kd.R (Kd.int .u8) 5 w' w.heap.size (fun _ => True) v0_ r1 ∧ Below w.heap.size w w' := by
  have HP := Aside0.mk hP
  have HL := Aside0.mk hL
  have HC0 := Aside0.mk hr0
  have HK0 := Aside0.mk hc0
  clear hP hL hr0 hc0
  have huE := Try.underlying23
  go_enter Try.func15, Try.ntmps15
  go_wp2_with (first
    | ((with_reducible refine gate_dst (N := 5) rfl ?_); refine box_event ?hg (N := 5) ?hd (cs := #[.int .i64 a, .bool b, .string s]) (t := 23) ?hr ?_; (case hd => rfl); (case hg => rfl); (case hr => first | (go_simp; done) | (go_simp; rfl)); intro g5 hg5 w1 hx hb; have k0 := (blk_cell hx 0).trans (show _ = some (Value.int .i64 a) from rfl); have k1 := (blk_cell hx 1).trans (show _ = some (Value.bool b) from rfl); have k2 := (blk_cell hx 2).trans (show _ = some (Value.string s) from rfl); have HB := Aside0.mk hb; clear hx hb hg5)
    | (go_at_call 35; go_loud (refine (hat _).mono ?_; rintro e w2 ⟨rfl, rfl⟩))
    | (go_at_call 6; go_loud (refine (dirent_Put.calls k a b s x1 _ _ HP.out).mono ?_; rintro e w3 ⟨v3, rfl, hr, hb⟩; obtain ⟨A3, c3, rfl, hlen3, hC3⟩ := Kd.R_reads hr; have HC3 := Aside0.mk hC3; have HK3 := Aside0.mk hlen3; have HB3 := Aside0.mk (below_step HB.out hb); clear hr hb hC3 hlen3))
    | (go_at_call 36; go_loud (refine (num_Lay.calls A0 c0 l0 (p * 32) A3 c3 x1 r1 r2 _ (Kd.C_below HC0.out HB3.out) HK0.out HC3.out HK3.out HL.out).mono ?_; rintro e w4 ⟨v4, rfl, hr, hb⟩; have HR4 := Aside0.mk (Kd.R_lower hr HB3.out.size); have HB4 := Aside0.mk (below_step HB3.out hb); clear hr hb)))
  go_ret2
  exact ⟨v4, rfl, HR4.out, HB4.out⟩
def dirent_Lay.f (k : Nat) (l0 : List Int) (p a : Int) (b : Bool) (s : ByteArray) : Option (List Int × Int) := if l0.length = 256 then (if 0 ≤ p ∧ p < 8 then (dirent_Put.f k a b s).bind fun x => if x.2 = 0 then num_Lay.f l0 (p * 32) x.1 else some ([], x.2) else some ([], 3)) else some ([], 4)
theorem dirent_Lay.mono : ∀ b0 b1 b2 b3 b4 k, LeO (dirent_Lay.f k b0 b1 b2 b3 b4) (dirent_Lay.f (k + 1) b0 b1 b2 b3 b4) := by
  intro b0 b1 b2 b3 b4 k
  exact LeO.ite (LeO.ite (LeO.bind (dirent_Put.mono _ _ _ _) fun _ => LeO.refl _) (LeO.refl _)) (LeO.refl _)
theorem dirent_Lay.calls (k : Nat) (A0 : Option Addr) (c0 : Nat) (l0 : List Int) (a1 : Int) (a2_0 : Int) (a2_1 : Bool) (a2_2 : ByteArray) (r1 : List Int) (r2 : Int) (w : World) (hr0 : Kd.C (Kd.int .u8) w A0 l0.length l0) (hc0 : l0.length ≤ c0) (h : dirent_Lay.f k l0 a1 a2_0 a2_1 a2_2 = some (r1, r2)) :
    Calls Try.prog 15 #[.slice A0 l0.length c0, .int .i64 a1, .agg #[.int .i64 a2_0, .bool a2_1, .string a2_2]] w fun e w' => ∃ v0_ : Value, e = .returned (.tuple #[v0_, .int .i64 r2]) ∧ Kd.R (Kd.int .u8) 5 w' w.heap.size (fun _ => True) v0_ r1 ∧ Below w.heap.size w w' := by
  unfold dirent_Lay.f at h
  by_cases hl : l0.length = 256
  · rw [if_pos hl] at h
    by_cases hp : 0 ≤ a1 ∧ a1 < 8
    · rw [if_pos hp] at h
      obtain ⟨A, c, hat, hC, hlen, hcap⟩ := at_ok A0 c0 l0 a1 hl hc0 hp.1 hp.2
      obtain ⟨⟨x1, x2⟩, hx, h⟩ := Option.bind_eq_some_iff.mp h
      by_cases h0 : x2 = 0
      · subst h0
        rw [if_pos rfl] at h
        exact dlay_yes k A0 c0 l0 a1 a2_0 a2_1 a2_2 A c x1 r1 r2 w hp.1 (by omega) hr0 hc0 hat hx h
      · rw [if_neg h0] at h
        cases h
        exact (dlay_put k A0 c0 l0.length a1 a2_0 a2_1 a2_2 A c x1 x2 w hat hx h0).mono fun e w' h => ⟨_, h.1, Kd.R_nil _ _ _ _ _, h.2⟩
    · rw [if_neg hp] at h
      cases h
      exact (dlay_at A0 c0 l0.length a1 3 a2_0 a2_1 a2_2 w (by decide) (fun w => at_range A0 c0 l0.length a1 w hl hp)).mono fun e w' h => ⟨_, h.1, Kd.R_nil _ _ _ _ _, h.2⟩
  · rw [if_neg hl] at h
    cases h
    exact (dlay_at A0 c0 l0.length a1 4 a2_0 a2_1 a2_2 w (by decide) (fun w => at_size A0 c0 l0.length a1 w hl)).mono fun e w' h => ⟨_, h.1, Kd.R_nil _ _ _ _ _, h.2⟩
def roomR (k : Nat) (l0 : List Int) : Nat → Int → Option Int
  | 0, _ => some (-1)
  | q + 1, i => if l0.length = 256 then (num_Zero.f k (cut32 l0 i)).bind fun z => if z = true then some i else roomR k l0 q (i + 1) else roomR k l0 q (i + 1)
theorem roomR.mono (k : Nat) (l0 : List Int) : ∀ q i, LeO (roomR k l0 q i) (roomR (k + 1) l0 q i)
  | 0, _ => LeO.refl _
  | q + 1, i => LeO.ite (LeO.bind (num_Zero.mono _ _) fun _ => LeO.ite (LeO.refl _) (roomR.mono k l0 q _)) (roomR.mono k l0 q _)
def dirent_Room.f (k : Nat) (l0 : List Int) : Option Int := roomR k l0 8 0
theorem dirent_Room.mono : ∀ b0 k, LeO (dirent_Room.f k b0) (dirent_Room.f (k + 1) b0) := fun b0 k => roomR.mono k b0 8 0
set_option maxHeartbeats 1000000 in
theorem dirent_Room.calls (k : Nat) (A0 : Option Addr) (c0 : Nat) (l0 : List Int) (r : Int) (w : World) (hr0 : Kd.C (Kd.int .u8) w A0 l0.length l0) (hc0 : l0.length ≤ c0) (h : dirent_Room.f k l0 = some r) :
    Calls Try.prog 26 #[.slice A0 l0.length c0] w fun e w' => e = .returned (.int .i64 r) ∧ Below w.heap.size w w' := by
  have HC0 := Aside0.mk hr0
  have HK0 := Aside0.mk hc0
  have H' := Aside0.mk (show roomR k l0 8 0 = some r from h)
  clear h hr0 hc0
  go_enter Try.func26, Try.ntmps26
  go_wp2
  go_loopg [6] 8 (fun q v6 w' => ∃ i : Int, v6 = .int .i64 i ∧ Aside0 (roomR k l0 q i = some r) ∧ Aside0 (i = 8 - (q : Int) ∧ q ≤ 8) ∧ Aside0 (Below w.heap.size w w'))
  case atStart => exact ⟨0, rfl, H', ⟨by omega⟩, ⟨Below.refl _ _⟩⟩
  case round =>
    clear H'
    obtain ⟨i, rfl, HA, HI, HB⟩ := hrel
    have H := HA.out
    clear HA
    rcases gk with _ | q
    · obtain rfl : i = 8 := by have := HI.out; omega
      obtain rfl := Option.some.inj H
      clear H
      go_wp2
      go_ret
      exact ⟨rfl, HB.out⟩
    · have h0 : 0 ≤ i := by have := HI.out; omega
      have h7 : i ≤ 7 := by have := HI.out; omega
      have t0 : decide (i < 8) = true := decide_eq_true (by omega)
      have HI2 := Aside0.mk (show i + 1 = 8 - (q : Int) ∧ q ≤ 8 by have := HI.out; omega)
      have e0 : ((0 : Int) == 0) = true := rfl
      unfold roomR at H
      by_cases hl : l0.length = 256
      · rw [if_pos hl] at H
        obtain ⟨z, hz, H⟩ := Option.bind_eq_some_iff.mp H
        obtain ⟨A, c, hat, hC, hlen, hcap⟩ := at_ok A0 c0 l0 i hl HK0.out h0 (by omega)
        have HZ := Aside0.mk hz
        have HC := Aside0.mk (hC w HC0.out)
        have HL := Aside0.mk hlen
        have HK := Aside0.mk hcap
        clear hz hC hlen hcap hl HI
        cases z
        · have H' := Aside0.mk (show roomR k l0 q (i + 1) = some r by rw [if_neg (by decide)] at H; exact H)
          clear H
          go_wp2_with (first
            | (go_at_call 35; go_loud (refine (hat _).mono ?_; rintro e w2 ⟨rfl, rfl⟩))
            | (go_at_call 32; go_loud (refine (zero_n k A c 32 (cut32 l0 i) false _ HL.out (Kd.C_below HC.out HB.out) HK.out HZ.out).mono ?_; rintro e w3 ⟨rfl, hb⟩; have HB3 := Aside0.mk (below_step HB.out hb); clear hb)))
          go_roundg q
          case measure => omega
          case rel => exact ⟨i + 1, rfl, H', HI2, HB3⟩
        · obtain rfl : i = r := by rw [if_pos rfl] at H; exact Option.some.inj H
          clear H
          go_wp2_with (first
            | (go_at_call 35; go_loud (refine (hat _).mono ?_; rintro e w2 ⟨rfl, rfl⟩))
            | (go_at_call 32; go_loud (refine (zero_n k A c 32 (cut32 l0 i) true _ HL.out (Kd.C_below HC.out HB.out) HK.out HZ.out).mono ?_; rintro e w3 ⟨rfl, hb⟩; have HB3 := Aside0.mk (below_step HB.out hb); clear hb)))
          go_ret
          exact ⟨rfl, HB3.out⟩
      · rw [if_neg hl] at H
        have H' := Aside0.mk H
        have hat := fun w => at_size A0 c0 l0.length i w hl
        have e4 : ((4 : Int) == 0) = false := rfl
        clear H hl HI
        go_wp2_with (go_at_call 35; go_loud (refine (hat _).mono ?_; rintro e w2 ⟨rfl, rfl⟩))
        go_roundg q
        case measure => omega
        case rel => exact ⟨i + 1, rfl, H', HI2, HB⟩
end Go.Proofs.Ytjlacfhmjjjpiaa.P
