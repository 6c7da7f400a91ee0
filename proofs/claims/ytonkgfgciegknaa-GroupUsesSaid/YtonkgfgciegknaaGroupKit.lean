/-
Package group's header as a value and as a variable: 25 cells, told by its number and its two maps; the operations on it, whatever the maps.
Conditions: none.
-/
import Derived.Test.YtonkgfgciegknaaProg
import Derived.Below
import Derived.Deep.Draws
import Derived.Deep.AppendLies
import Derived.Maps.AppendAt
import Derived.OwnWalk
import Derived.Laws.BytesArg
import Derived.Laws.MakeOwn
import Derived.Laws.OwnMore
import Derived.Deep.OwnRows
import Derived.Tactics
import Derived.Lib.ConvBytes
import Derived.Laws.Slices
import Derived.WalkKit
import Derived.KernelRfl
import Derived.RowKit3
import Derived.Deep.LoopGhost
import Derived.Deep.QuietTactic
import Derived.BigQuiet
import Derived.WideLaws
import Derived.Deep.DeepCutAuto
import Derived.Deep.CutBlock
import Derived.Deep.RegionHeld3
import Derived.Laws.Rows
import Derived.Lib.AppendStr
import Derived.ArgAppend
import Derived.Laws.IdiomCopy
import Derived.OrdersHeld
import Derived.Laws.BitsLemmas
import Derived.RowKit
import Derived.Test.YtonkgfgciegknaaWWords
import Derived.Laws.CopyOwn
import Derived.Deep.MidRow
import Derived.DeepKeys
import Derived.StillTailTactics
import Derived.Deep.RegionWith
import Derived.Test.YtonkgfgciegknaaHand
namespace Go.Proofs.Ytonkgfgciegknaa.P
open Go.RowKit Go.Proofs.YtonkgfgciegknaaW.PrintWords Go.Proofs.YtonkgfgciegknaaW.PrintLast Go.Proofs.YtonkgfgciegknaaW.PrintMore
theorem c3_0 {w : World} {g : Nat} {a b c : Value} {t : TypeId} (h : w.heap[g]? = some (.cells #[a, b, c] t (0, 0))) : w.cell? ⟨g, 0, none⟩ = some a := blk_cell h 0
theorem c3_1 {w : World} {g : Nat} {a b c : Value} {t : TypeId} (h : w.heap[g]? = some (.cells #[a, b, c] t (0, 0))) : w.cell? ⟨g, 1, none⟩ = some b := blk_cell h 1
theorem c3_2 {w : World} {g : Nat} {a b c : Value} {t : TypeId} (h : w.heap[g]? = some (.cells #[a, b, c] t (0, 0))) : w.cell? ⟨g, 2, none⟩ = some c := blk_cell h 2
theorem new_ne {w : World} {g k : Nat} {o : Obj} (h : w.heap[g]? = some o) (hg : k = w.heap.size) : g ≠ k := by
  have := blk_lt h
  omega
attribute [local go_sem] max2_int min2_int max_two min_two max_three min_three max_four min_four
set_option linter.unusedVariables false
set_option linter.unusedSimpArgs false
/-- A header's cells, and its value. -/
def headC (no : Int) (bl sl : List Int) : List Value := .int .i64 no :: (nums .u8 bl ++ nums .u8 sl)
def headV (no : Int) (bl sl : List Int) : Value := .agg (headC no bl sl).toArray
/-- Maps as a header has them. -/
def Maps (bl sl : List Int) : Prop := bl.length = 16 ∧ sl.length = 8
theorem headC_length {no : Int} {bl sl : List Int} (h : Maps bl sl) : (headC no bl sl).length = 25 := by
  simp [headC, nums, h.1, h.2]
theorem nums_one (k : IntKind) (l : List Int) : ∀ v ∈ nums k l, v.oneCell' = true := by
  intro v hv
  obtain ⟨x, _, rfl⟩ := List.mem_map.mp hv
  rfl
theorem head_one (no : Int) (bl sl : List Int) : ∀ v ∈ headC no bl sl, v.oneCell' = true := by
  intro v hv
  rcases List.mem_cons.mp hv with rfl | hv
  · rfl
  rcases List.mem_append.mp hv with hv | hv
  · exact nums_one _ _ _ hv
  · exact nums_one _ _ _ hv
theorem range_blk {w : World} {g : Nat} {t : TypeId} {cs : List Value} (h : w.heap[g]? = some (.cells cs.toArray t (0, 0))) (o : Nat) (ys : List Value) (he : ∀ j v, ys[j]? = some v → cs[o + j]? = some v) : w.rangeAt g o ys := by
  intro j v hv
  rw [blk_cell h, List.getElem?_toArray]
  exact he j v hv
theorem head_atB {no : Int} {bl sl : List Int} (j : Nat) (hj : j < bl.length) : (headC no bl sl)[1 + j]? = some (.int .u8 (rd bl j)) := by
  rw [headC, Nat.add_comm 1 j, List.getElem?_cons_succ, List.getElem?_append_left (by rw [nums_length]; exact hj), nums, List.getElem?_map, List.getElem?_eq_getElem hj, Option.map_some, rd, List.getD_eq_getElem?_getD, Int.toNat_natCast, List.getElem?_eq_getElem hj, Option.getD_some]
theorem head_atS {no : Int} {bl sl : List Int} (hb : bl.length = 16) (j : Nat) (hj : j < sl.length) : (headC no bl sl)[17 + j]? = some (.int .u8 (rd sl j)) := by
  rw [headC, show 17 + j = (16 + j) + 1 from by omega, List.getElem?_cons_succ, List.getElem?_append_right (by rw [nums_length, hb]; omega), nums_length, hb, show 16 + j - 16 = j from by omega, nums, List.getElem?_map, List.getElem?_eq_getElem hj, Option.map_some, rd, List.getD_eq_getElem?_getD, Int.toNat_natCast, List.getElem?_eq_getElem hj, Option.getD_some]
theorem info_head : (Try.prog.info? 28).map (·.size) = some 25 := by kernel_rfl
theorem info_bl : (Try.prog.info? 25).map (·.size) = some 16 := by kernel_rfl
theorem info_sl : (Try.prog.info? 26).map (·.size) = some 8 := by kernel_rfl
section
variable {w : World} {g : Nat} {no : Int} {bl sl : List Int}
/-- The variable g holds this header. -/
def HeadAt (w : World) (g : Nat) (no : Int) (bl sl : List Int) : Prop := w.heap[g]? = some (.cells (headC no bl sl).toArray 28 (0, 0))
theorem load_head (h : HeadAt w g no bl sl) (hm : Maps bl sl) : (Instr.loadAt 28 (.pointer (some ⟨g, 0, none⟩))).run Try.prog w = .ok (headV no bl sl) w :=
  run_loadAt_mid w g 0 _ (headC no bl sl) _ (range_blk h 0 _ (fun j v hv => by rw [Nat.zero_add]; exact hv)) Try.underlying28 rfl (by rw [info_head, headC_length hm])
theorem load_bl (h : HeadAt w g no bl sl) (hm : Maps bl sl) : (Instr.loadAt 25 (.pointer (some ⟨g, 1, none⟩))).run Try.prog w = .ok (.agg (nums .u8 bl).toArray) w :=
  run_loadAt_mid w g 1 _ (nums .u8 bl) _ (range_blk h 1 _ (fun j v hv => by
    rw [headC, Nat.add_comm, List.getElem?_cons_succ, List.getElem?_append_left (List.getElem?_eq_some_iff.mp hv).1]; exact hv)) Try.underlying25 rfl (by rw [info_bl, nums_length, hm.1])
theorem load_sl (h : HeadAt w g no bl sl) (hm : Maps bl sl) : (Instr.loadAt 26 (.pointer (some ⟨g, 17, none⟩))).run Try.prog w = .ok (.agg (nums .u8 sl).toArray) w :=
  run_loadAt_mid w g 17 _ (nums .u8 sl) _ (range_blk h 17 _ (fun j v hv => by
    rw [headC, show 17 + j = (16 + j) + 1 from by omega, List.getElem?_cons_succ, List.getElem?_append_right (by rw [nums_length, hm.1]; omega), nums_length, hm.1, show 16 + j - 16 = j from by omega]; exact hv)) Try.underlying26 rfl (by rw [info_sl, nums_length, hm.2])
theorem cell_no (h : HeadAt w g no bl sl) : w.cell? ⟨g, 0, none⟩ = some (.int .i64 no) := by
  rw [blk_cell h, List.getElem?_toArray]; rfl
theorem cell_bl (h : HeadAt w g no bl sl) (hm : Maps bl sl) (j : Nat) (hj : j < 16) : w.cell? ⟨g, 1 + j, none⟩ = some (.int .u8 (rd bl j)) := by
  rw [blk_cell h, List.getElem?_toArray, head_atB j (by rw [hm.1]; exact hj)]
theorem cell_sl (h : HeadAt w g no bl sl) (hm : Maps bl sl) (j : Nat) (hj : j < 8) : w.cell? ⟨g, 17 + j, none⟩ = some (.int .u8 (rd sl j)) := by
  rw [blk_cell h, List.getElem?_toArray, head_atS hm.1 j (by rw [hm.2]; exact hj)]
theorem C_bl (h : HeadAt w g no bl sl) (hm : Maps bl sl) : Kd.C (Kd.int .u8) w (some ⟨g, 1, none⟩) bl.length bl := by
  refine Kd.C_of_reads (d := (0 : Int)) (h1 := fun _ => rfl) ⟨rfl, by rw [hm.1]; decide, fun _ => ⟨⟨g, 1, none⟩, rfl, fun j hj => ?_⟩⟩
  rw [Addr.add_mid]
  exact cell_bl h hm j (by rw [← hm.1]; exact hj)
theorem C_sl (h : HeadAt w g no bl sl) (hm : Maps bl sl) : Kd.C (Kd.int .u8) w (some ⟨g, 17, none⟩) sl.length sl := by
  refine Kd.C_of_reads (d := (0 : Int)) (h1 := fun _ => rfl) ⟨rfl, by rw [hm.2]; decide, fun _ => ⟨⟨g, 17, none⟩, rfl, fun j hj => ?_⟩⟩
  rw [Addr.add_mid]
  exact cell_sl h hm j (by rw [← hm.2]; exact hj)
theorem HeadAt.below {w1 : World} (h : HeadAt w g no bl sl) (hb : Below w.heap.size w w1) : HeadAt w1 g no bl sl := blk_below h hb
theorem HeadAt.drew (h : HeadAt w g no bl sl) : HeadAt w.drew g no bl sl := blk_drew h
theorem HeadAt.other {w1 : World} (h : HeadAt w g no bl sl) {g1 : Nat} (ho : ∀ k, k ≠ g1 → w1.heap[k]? = w.heap[k]?) (hn : g ≠ g1) : HeadAt w1 g no bl sl := (ho g hn).trans h
end
/-- A whole variable is written: whatever its cells were. -/
theorem store_all {P : Program} {w : World} {ops : Array Oper} {rest : List Oper} {o : Oper} {a : Act} {Q : Exit → Act → World → Prop} (hgd : o.guard = none) (hN : o.dst = none) {t : TypeId} {p : Tmp} {v : Operand} (ho : o.op = .store t (.tmp p) v)
    (g : Nat) (cells : List Value) (hx : a.eval (.tmp p) = .pointer (some ⟨g, 0, none⟩)) (hy : a.eval v = .agg cells.toArray) (t' : TypeId) (old : Array Value) (hg : w.heap[g]? = some (.cells old t' (0, 0))) (hi : (P.info? t).map (·.size) = some cells.length)
    (hold : old.size = cells.length) (h1 : ∀ v ∈ cells, v.oneCell' = true) (B : Nat) (w0 : World) (hb : Below B w0 w) (hB : B ≤ g)
    (h : ∀ w', w'.heap[g]? = some (.cells cells.toArray t' (0, 0)) → (∀ k, k ≠ g → w'.heap[k]? = w.heap[k]?) → Below B w0 w' → wpList P ops Q rest a w') : wpList P ops Q (o :: rest) a w := by
  refine wpList_plain hgd fun K hK => ?_
  refine wp_store_row t (.tmp p) v ho g cells.toArray hx hy t' old hg (by simpa using hi) (by simpa using hold) (all_oneCell_toArray h1) ?_
  have e : a.put o.dst undef = a := by rw [hN]; rfl
  rw [e]
  exact hK _ _ (h _ (setRow_heap w g old cells.toArray t' (0, 0) hg) (fun k hk => setRow_other w g k _ hk) (below_setRow hb hB _))
theorem list16 {l : List Int} (h : l.length = 16) : ∃ a0 a1 a2 a3 a4 a5 a6 a7 a8 a9 a10 a11 a12 a13 a14 a15, l = [a0, a1, a2, a3, a4, a5, a6, a7, a8, a9, a10, a11, a12, a13, a14, a15] := by
  match l, h with
  | [a0, a1, a2, a3, a4, a5, a6, a7, a8, a9, a10, a11, a12, a13, a14, a15], _ => exact ⟨a0, a1, a2, a3, a4, a5, a6, a7, a8, a9, a10, a11, a12, a13, a14, a15, rfl⟩
theorem list8 {l : List Int} (h : l.length = 8) : ∃ a0 a1 a2 a3 a4 a5 a6 a7, l = [a0, a1, a2, a3, a4, a5, a6, a7] := by
  match l, h with
  | [a0, a1, a2, a3, a4, a5, a6, a7], _ => exact ⟨a0, a1, a2, a3, a4, a5, a6, a7, rfl⟩
theorem eqItems_nums {w : World} (d : Nat) (l m : List Int) : ∀ is : List Nat, (∀ i ∈ is, i < l.length ∧ i < m.length) → (Op.eqItems (d + 1) 5 1 (nums .u8 l).toArray (nums .u8 m).toArray is).run Try.prog w = .ok (decide (∀ i ∈ is, rd l (i : Nat) = rd m (i : Nat))) w
  | [], _ => by simp [Op.eqItems]
  | i :: is, h => by
    have hp : Try.prog.plainKey 5 = true := by kernel_rfl
    have at_ : ∀ x : List Int, i < x.length → (part 5 (nums .u8 x).toArray (i * 1)).run Try.prog w = .ok (.int .u8 (rd x (i : Nat))) w := fun x hx =>
      run_part_plain w hp (by rw [Nat.mul_one, List.getElem?_toArray, nums, List.getElem?_map, List.getElem?_eq_getElem hx, Option.map_some, rd, List.getD_eq_getElem?_getD, Int.toNat_natCast, List.getElem?_eq_getElem hx, Option.getD_some])
    have ih := eqItems_nums (w := w) d l m is (fun j hj => h j (List.mem_cons_of_mem _ hj))
    have hi := h i List.mem_cons_self
    simp only [Op.eqItems, Sem.run_bind, at_ l hi.1, at_ m hi.2, Result.andThen_ok, run_equalIn_int w d 5 .u8 .u8 (rd l (i : Nat)) (rd m (i : Nat)) Try.underlying5]
    by_cases e : rd l (i : Nat) = rd m (i : Nat)
    · rw [beq_iff_eq.mpr e, if_neg (by decide), ih]
      congr 1
      rw [decide_eq_decide]
      exact ⟨fun k j hj => by rcases List.mem_cons.mp hj with rfl | hj; exact e; exact k j hj, fun k j hj => k j (List.mem_cons_of_mem _ hj)⟩
    · rw [beq_eq_false_iff_ne.mpr e, if_pos (by decide), Sem.run_pure]
      congr 1
      rw [eq_comm, decide_eq_false_iff_not]
      exact fun k => e (k i List.mem_cons_self)
theorem all_rd {l m : List Int} (h : l.length = m.length) (n : Nat) (hn : l.length = n) : (∀ i ∈ List.range n, rd l (i : Nat) = rd m (i : Nat)) ↔ l = m := by
  constructor
  · intro k
    refine List.ext_getElem h fun i h1 h2 => ?_
    have := k i (by rw [List.mem_range]; omega)
    simpa [rd, h1, h2] using this
  · rintro rfl _ _
    rfl
theorem cells5 : Try.prog.cellsOf 5 = 1 := by kernel_rfl
theorem eq_bl {w : World} (d : Nat) {l m : List Int} (hl : l.length = 16) (hm : m.length = 16) : (Op.equalIn (d + 2) 25 (.agg (nums .u8 l).toArray) (.agg (nums .u8 m).toArray)).run Try.prog w = .ok (decide (l = m)) w := by
  obtain ⟨i0, hi, _⟩ := info_parts info5
  rw [run_equalIn_array w (d + 1) _ _ Try.underlying25 hi, cells5, eqItems_nums d l m _ (fun i hi => by have := List.mem_range.mp hi; omega)]
  congr 1
  rw [decide_eq_decide]
  exact all_rd (hl.trans hm.symm) 16 hl
theorem eq_sl {w : World} (d : Nat) {l m : List Int} (hl : l.length = 8) (hm : m.length = 8) : (Op.equalIn (d + 2) 26 (.agg (nums .u8 l).toArray) (.agg (nums .u8 m).toArray)).run Try.prog w = .ok (decide (l = m)) w := by
  obtain ⟨i0, hi, _⟩ := info_parts info5
  rw [run_equalIn_array w (d + 1) _ _ Try.underlying26 hi, cells5, eqItems_nums d l m _ (fun i hi => by have := List.mem_range.mp hi; omega)]
  congr 1
  rw [decide_eq_decide]
  exact all_rd (hl.trans hm.symm) 8 hl
theorem part_no {w : World} (no : Int) (bl sl : List Int) : (part 3 (headC no bl sl).toArray 0).run Try.prog w = .ok (.int .i64 no) w := run_part_plain w (by kernel_rfl) rfl
set_option maxRecDepth 100000 in
theorem part_bl {w : World} (no : Int) (bl sl : List Int) (h : Maps bl sl) : (part 25 (headC no bl sl).toArray 1).run Try.prog w = .ok (.agg (nums .u8 bl).toArray) w := by
  obtain ⟨hx, hy⟩ := h
  obtain ⟨a0, a1, a2, a3, a4, a5, a6, a7, a8, a9, a10, a11, a12, a13, a14, a15, rfl⟩ := list16 hx
  obtain ⟨b0, b1, b2, b3, b4, b5, b6, b7, rfl⟩ := list8 hy
  kernel_rfl
set_option maxRecDepth 100000 in
theorem part_sl {w : World} (no : Int) (bl sl : List Int) (h : Maps bl sl) : (part 26 (headC no bl sl).toArray 17).run Try.prog w = .ok (.agg (nums .u8 sl).toArray) w := by
  obtain ⟨hx, hy⟩ := h
  obtain ⟨a0, a1, a2, a3, a4, a5, a6, a7, a8, a9, a10, a11, a12, a13, a14, a15, rfl⟩ := list16 hx
  obtain ⟨b0, b1, b2, b3, b4, b5, b6, b7, rfl⟩ := list8 hy
  kernel_rfl
theorem eqFields_step {P : Program} {w : World} (d : Nat) (xs ys : Array Value) (f : Field) (fs : List Field) (a b : Value) (r : Bool) (hn : f.name ≠ "_") (ha : (part f.type xs f.offset).run P w = .ok a w) (hb : (part f.type ys f.offset).run P w = .ok b w)
    (hr : (Op.equalIn d f.type a b).run P w = .ok r w) : (Op.eqFields d xs ys (f :: fs)).run P w = if r = true then (Op.eqFields d xs ys fs).run P w else .ok false w := by
  simp only [Op.eqFields, hn, ne_eq, not_false_eq_true, if_true, Sem.run_bind, ha, hb, hr, Result.andThen_ok]
  cases r
  · simp only [Bool.not_false, if_true, Sem.run_pure, if_neg (show ¬ (false = true) by decide)]
  · simp only [Bool.not_true, if_true, if_neg (show ¬ (false = true) by decide)]
def fld0 : Field := { name := "No", type := 3, offset := 0, embedded := false, tag := "", pkgPath := "", byteOffset := 0 }
def fld1 : Field := { name := "Blocks", type := 25, offset := 1, embedded := false, tag := "", pkgPath := "", byteOffset := 8 }
def fld2 : Field := { name := "Slots", type := 26, offset := 17, embedded := false, tag := "", pkgPath := "", byteOffset := 24 }
theorem fields_head : Try.prog.fieldsOf 28 = #[fld0, fld1, fld2] := by kernel_rfl
theorem under_head : Try.prog.underlying 28 = some (.struct #[fld0, fld1, fld2]) := Try.underlying28
theorem eq_head {w : World} (d : Nat) {no no' : Int} {bl sl bl' sl' : List Int} (h : Maps bl sl) (h' : Maps bl' sl') : (Op.equalIn (d + 3) 28 (headV no bl sl) (headV no' bl' sl')).run Try.prog w = .ok (decide (no = no' ∧ bl = bl' ∧ sl = sl')) w := by
  unfold headV
  rw [run_equalIn_struct w (d + 2) 28 _ _ (by rw [fields_head]; exact under_head) (by kernel_rfl), fields_head]
  refine (eqFields_step (d + 2) _ _ fld0 [fld1, fld2] _ _ _ (by decide) (part_no no bl sl) (part_no no' bl' sl') (run_equalIn_int w (d + 1) 3 .i64 .i64 no no' Try.underlying3)).trans ?_
  by_cases h1 : no = no'
  · rw [if_pos (beq_iff_eq.mpr h1)]
    refine (eqFields_step (d + 2) _ _ fld1 [fld2] _ _ _ (by decide) (part_bl no bl sl h) (part_bl no' bl' sl' h') (eq_bl (w := w) d h.1 h'.1)).trans ?_
    by_cases h2 : bl = bl'
    · rw [if_pos (decide_eq_true h2)]
      refine (eqFields_step (d + 2) _ _ fld2 [] _ _ _ (by decide) (part_sl no bl sl h) (part_sl no' bl' sl' h') (eq_sl (w := w) d h.2 h'.2)).trans ?_
      by_cases h3 : sl = sl'
      · rw [if_pos (decide_eq_true h3), decide_eq_true ⟨h1, h2, h3⟩, Op.eqFields, Sem.run_pure]
      · rw [if_neg (by rw [decide_eq_true_eq]; exact h3), decide_eq_false (fun q => h3 q.2.2)]
    · rw [if_neg (by rw [decide_eq_true_eq]; exact h2), decide_eq_false (fun q => h2 q.2.1)]
  · rw [if_neg (by rw [beq_iff_eq]; exact h1), decide_eq_false (fun q => h1 q.1)]
theorem eql_head {w : World} {no no' : Int} {bl sl bl' sl' : List Int} (h : Maps bl sl) (h' : Maps bl' sl') : (binOp .eql 28 (headV no bl sl) (headV no' bl' sl')).run Try.prog w = .ok (.bool (decide (no = no' ∧ bl = bl' ∧ sl = sl'))) w := by
  have e := eq_head (w := w) 9997 (no := no) (no' := no') h h'
  unfold headV at e ⊢
  rw [run_eql_struct, e]
  rfl
theorem neq_head {w : World} {no no' : Int} {bl sl bl' sl' : List Int} (h : Maps bl sl) (h' : Maps bl' sl') : (binOp .neq 28 (headV no bl sl) (headV no' bl' sl')).run Try.prog w = .ok (.bool (!decide (no = no' ∧ bl = bl' ∧ sl = sl'))) w := by
  have e := eq_head (w := w) 9997 (no := no) (no' := no') h h'
  unfold headV at e ⊢
  rw [run_neq_struct, e]
  rfl
theorem eql_bl {w : World} {l m : List Int} (hl : l.length = 16) (hm : m.length = 16) : (binOp .eql 25 (.agg (nums .u8 l).toArray) (.agg (nums .u8 m).toArray)).run Try.prog w = .ok (.bool (decide (l = m))) w := by
  rw [run_eql_struct, eq_bl 9998 hl hm]
  rfl
theorem eql_sl {w : World} {l m : List Int} (hl : l.length = 8) (hm : m.length = 8) : (binOp .eql 26 (.agg (nums .u8 l).toArray) (.agg (nums .u8 m).toArray)).run Try.prog w = .ok (.bool (decide (l = m))) w := by
  rw [run_eql_struct, eq_sl 9998 hl hm]
  rfl
def zeros (n : Nat) : List Int := List.replicate n 0
theorem zeros_maps : Maps (zeros 16) (zeros 8) := ⟨rfl, rfl⟩
/-- A header of a number alone, and an empty one, as they are built. -/
theorem built_no (no : Int) : Try.prog.built 28 [(0, .int .i64 no)] = some (headC no (zeros 16) (zeros 8)).toArray := by kernel_rfl
end Go.Proofs.Ytonkgfgciegknaa.P
