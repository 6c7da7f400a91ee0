/-
What package group's functions tell, in plain words; and what a header's variable is behind a store.
Conditions: none.
-/
import Derived.Test.YtonkgfgciegknaaGroupKit
import Derived.Test.YtonkgfgciegknaaBits
import Derived.Test.YtonkgfgciegknaaGeoI
namespace Go.Proofs.Ytonkgfgciegknaa.P
open Go.RowKit Go.Proofs.YtonkgfgciegknaaW.PrintWords Go.Proofs.YtonkgfgciegknaaW.PrintLast Go.Proofs.YtonkgfgciegknaaW.PrintMore
attribute [local go_sem] max2_int min2_int max_two min_two max_three min_three max_four min_four
set_option linter.unusedVariables false
set_option linter.unusedSimpArgs false
/-- A group of that number is there. -/
def okS (G I N no : Int) : Bool := Geo.R G I N && decide (0 ≤ no) && decide (no < N)
/-- The first so many bits of 16 bytes, set one by one. -/
def onesL : Nat → List Int
  | 0 => zeros 16
  | i + 1 => (onesL i).set (i / 8) (Go.bits .or .u8 (rd (onesL i) ((i : Int) / 8)) (2 ^ (i % 8) % 256))
def slots0 (no : Int) : List Int := if no = 0 then (zeros 8).set 0 3 else zeros 8
/-- The first i elements of two maps, or'ed. -/
def orUp (n : Nat) (l m : List Int) (i : Nat) : List Int := (List.range n).map fun j => if j < i then Go.bits .or .u8 (rd l (j : Int)) (rd m (j : Int)) else 0
theorem orUp_length (n : Nat) (l m : List Int) (i : Nat) : (orUp n l m i).length = n := by simp [orUp]
theorem orUp_zero (n : Nat) (l m : List Int) : orUp n l m 0 = zeros n := by
  apply List.ext_getElem
  · simp [orUp, zeros]
  · intro j h1 h2
    simp [orUp, zeros]
theorem orUp_succ (n : Nat) (l m : List Int) (i : Nat) (h : i < n) : (orUp n l m i).set i (Go.bits .or .u8 (rd l (i : Int)) (rd m (i : Int))) = orUp n l m (i + 1) := by
  apply List.ext_getElem
  · simp [orUp]
  · intro j h1 h2
    rw [List.getElem_set]
    simp only [orUp, List.getElem_map, List.getElem_range]
    by_cases e : i = j
    · subst e
      rw [if_pos rfl, if_pos (by omega)]
    · rw [if_neg e]
      by_cases k : j < i
      · rw [if_pos k, if_pos (by omega)]
      · rw [if_neg k, if_neg (by omega)]
def cntZ (l : List Int) (n : Int) : Int := (Bits.cnt (Bits.bitS l) (Bits.mostS l n) : Int)
/-- What the program's Right tells. -/
def rightP (G I N no : Int) (bl sl : List Int) : Bool :=
  okS G I N no && (decide (orUp 16 bl (onesL (1 + I / 4).toNat) 16 = bl) && (decide (orUp 8 sl (slots0 no) 8 = sl) && ((cntZ bl G == cntZ bl 128) && (cntZ sl I == cntZ sl 64))))
theorem onesL_length : ∀ i, (onesL i).length = 16
  | 0 => rfl
  | i + 1 => by rw [onesL, List.length_set]; exact onesL_length i
theorem slots0_length (no : Int) : (slots0 no).length = 8 := by unfold slots0; split <;> rfl
theorem fresh_maps (i : Nat) (no : Int) : Maps (onesL i) (slots0 no) := ⟨onesL_length i, slots0_length no⟩
section
variable {w : World} {g : Nat} {no : Int} {bl sl : List Int}
theorem put_bl (h : HeadAt w g no bl sl) (hm : Maps bl sl) (j : Nat) (hj : j < 16) (v : Int) : HeadAt (w.setCell ⟨g, 1 + j, none⟩ (.int .u8 v)) g no (bl.set j v) sl := by
  refine blk_put h (1 + j) _ ?_
  rw [List.setIfInBounds_toArray, headC, Nat.add_comm 1 j, List.set_cons_succ, List.set_append_left _ _ (by rw [nums_length, hm.1]; exact hj), headC, nums, nums, nums, List.map_set]
theorem put_sl (h : HeadAt w g no bl sl) (hm : Maps bl sl) (j : Nat) (hj : j < 8) (v : Int) : HeadAt (w.setCell ⟨g, 17 + j, none⟩ (.int .u8 v)) g no bl (sl.set j v) := by
  refine blk_put h (17 + j) _ ?_
  rw [List.setIfInBounds_toArray, headC, show 17 + j = (16 + j) + 1 from by omega, List.set_cons_succ, List.set_append_right _ _ (by rw [nums_length, hm.1]; omega), nums_length, hm.1, show 16 + j - 16 = j from by omega, headC, nums, nums, nums, List.map_set]
end
/-- A row of bytes that lies in a block of its own (or is nil). -/
def Row8 (w : World) (v : Value) (l : List Int) : Prop := w.ownsRow 0 5 1 v l.length (nums .u8 l)
theorem Row8.of_R {w : World} {base : Nat} {ok : Nat → Prop} {v : Value} {l : List Int} (h : Kd.R (Kd.int .u8) 5 w base ok v l) : Row8 w v l := own_less (Kd.own_of_R h) (Nat.zero_le _)
theorem Row8.R {w : World} {v : Value} {l : List Int} (h : Row8 w v l) : Kd.R (Kd.int .u8) 5 w 0 (fun _ => True) v l := Kd.R_of_own h (fun _ _ => trivial)
theorem Row8.slice {w : World} {v : Value} {l : List Int} (h : Row8 w v l) : ∃ A c, v = .slice A l.length c ∧ l.length ≤ c := by
  obtain ⟨_, ⟨rfl, h0⟩ | ⟨g, cap, cur, rfl, _, _, hc, _⟩⟩ := h
  · exact ⟨none, 0, by rw [h0], by omega⟩
  · exact ⟨_, _, rfl, hc⟩
theorem Row8.C {w : World} {A : Option Addr} {n c : Nat} {l : List Int} (h : Row8 w (.slice A n c) l) : Kd.C (Kd.int .u8) w A l.length l := (Kd.R_reads' h.R).2.2
theorem Row8.below {w w1 : World} {v : Value} {l : List Int} (h : Row8 w v l) (hb : Below w.heap.size w w1) : Row8 w1 v l := by
  obtain ⟨h0, h1 | ⟨g, cap, cur, e, h2, h3, h4⟩⟩ := h
  · exact ⟨h0, .inl h1⟩
  · exact ⟨h0, .inr ⟨g, cap, cur, e, h2, blk_below h3 hb, h4⟩⟩
theorem Row8.drew {w : World} {v : Value} {l : List Int} (h : Row8 w v l) : Row8 w.drew v l := h
theorem Row8.other {w w1 : World} {v : Value} {l : List Int} {g : Nat} {cs : Array Value} {t : TypeId} (h : Row8 w v l) (hg : w.heap[g]? = some (.cells cs t (0, 0))) (ht : t ≠ 5) (ho : ∀ k, k ≠ g → w1.heap[k]? = w.heap[k]?) : Row8 w1 v l := by
  obtain ⟨h0, h1 | ⟨g', cap, cur, e, h2, h3, h4⟩⟩ := h
  · exact ⟨h0, .inl h1⟩
  · exact ⟨h0, .inr ⟨g', cap, cur, e, h2, (ho _ (blk_ne h3 hg (Ne.symm ht))).trans h3, h4⟩⟩
section
variable {op : Oper} {a : Act} {w : World} {K : Act → World → Prop} {Q : Exit → Act → World → Prop} {g : Nat} {no : Int} {bl sl : List Int}
theorem wpL_head (x : Operand) (ho : op.op = .load 28 x) (hx : a.eval x = .pointer (some ⟨g, 0, none⟩)) (hg : HeadAt w g no bl sl) (hm : Maps bl sl) (h : K (a.put op.dst (headV no bl sl)) w) : op.wp Try.prog a w K Q :=
  wp_load_mid _ x ho g 0 hx (headC no bl sl) _ (range_blk hg 0 _ (fun j v hv => by rw [Nat.zero_add]; exact hv)) Try.underlying28 rfl (by rw [info_head, headC_length hm]) h
theorem wpL_bl (x : Operand) (ho : op.op = .load 25 x) (hx : a.eval x = .pointer (some ⟨g, 1, none⟩)) (hg : HeadAt w g no bl sl) (hm : Maps bl sl) (h : K (a.put op.dst (.agg (nums .u8 bl).toArray)) w) : op.wp Try.prog a w K Q := by
  unfold Oper.wp execOp
  simp only [ho, hx, Sem.run_bind, load_bl hg hm, Result.andThen_ok, Sem.run_pure]
  exact h
theorem wpL_sl (x : Operand) (ho : op.op = .load 26 x) (hx : a.eval x = .pointer (some ⟨g, 17, none⟩)) (hg : HeadAt w g no bl sl) (hm : Maps bl sl) (h : K (a.put op.dst (.agg (nums .u8 sl).toArray)) w) : op.wp Try.prog a w K Q := by
  unfold Oper.wp execOp
  simp only [ho, hx, Sem.run_bind, load_sl hg hm, Result.andThen_ok, Sem.run_pure]
  exact h
/-- An operation that tells a value and leaves the world. -/
theorem wp_val {v : Value} (hrun : (execOp a.eval op).run Try.prog w = .ok (.value v) w) (h : K (a.put op.dst v) w) : op.wp Try.prog a w K Q := by
  unfold Oper.wp
  rw [hrun]
  exact h
end
section
variable {ops : Array Oper} {rest : List Oper} {op : Oper} {a : Act} {w : World} {Q : Exit → Act → World → Prop} {g : Nat} {no : Int} {bl sl : List Int}
theorem eg_b : Try.prog.eqGuardType Try.prog.depth 25 = false := by kernel_rfl
theorem eg_s : Try.prog.eqGuardType Try.prog.depth 26 = false := by kernel_rfl
theorem eg_h : Try.prog.eqGuardType Try.prog.depth 28 = false := by kernel_rfl
theorem wl_wanted (hw : Region.wanted op (yielded ops a.tmps) = true) (h : ∀ K : Act → World → Prop, (∀ a w, wpList Try.prog ops Q rest a w → K a w) → op.wp Try.prog a w K Q) : wpList Try.prog ops Q (op :: rest) a w :=
  wpList_step fun K hK => by rw [if_pos hw]; exact h K hK
theorem wl_val (hw : Region.wanted op (yielded ops a.tmps) = true) {v : Value} (hrun : (execOp a.eval op).run Try.prog w = .ok (.value v) w) (h : wpList Try.prog ops Q rest (a.put op.dst v) w) : wpList Try.prog ops Q (op :: rest) a w :=
  wl_wanted hw fun _ hK => wp_val hrun (hK _ _ h)
theorem wl_head (hw : Region.wanted op (yielded ops a.tmps) = true) (x : Operand) (ho : op.op = .load 28 x) (hx : a.eval x = .pointer (some ⟨g, 0, none⟩)) (hg : HeadAt w g no bl sl) (hm : Maps bl sl) (h : wpList Try.prog ops Q rest (a.put op.dst (headV no bl sl)) w) : wpList Try.prog ops Q (op :: rest) a w :=
  wl_wanted hw fun _ hK => wpL_head x ho hx hg hm (hK _ _ h)
theorem wl_bl (hw : Region.wanted op (yielded ops a.tmps) = true) (x : Operand) (ho : op.op = .load 25 x) (hx : a.eval x = .pointer (some ⟨g, 1, none⟩)) (hg : HeadAt w g no bl sl) (hm : Maps bl sl) (h : wpList Try.prog ops Q rest (a.put op.dst (.agg (nums .u8 bl).toArray)) w) : wpList Try.prog ops Q (op :: rest) a w :=
  wl_wanted hw fun _ hK => wpL_bl x ho hx hg hm (hK _ _ h)
theorem wl_sl (hw : Region.wanted op (yielded ops a.tmps) = true) (x : Operand) (ho : op.op = .load 26 x) (hx : a.eval x = .pointer (some ⟨g, 17, none⟩)) (hg : HeadAt w g no bl sl) (hm : Maps bl sl) (h : wpList Try.prog ops Q rest (a.put op.dst (.agg (nums .u8 sl).toArray)) w) : wpList Try.prog ops Q (op :: rest) a w :=
  wl_wanted hw fun _ hK => wpL_sl x ho hx hg hm (hK _ _ h)
theorem wl_eqb (hw : Region.wanted op (yielded ops a.tmps) = true) (x y : Operand) {t2 : TypeId} (ho : op.op = .binOp .eql 25 x y t2) {l m : List Int} (hx : a.eval x = .agg (nums .u8 l).toArray) (hy : a.eval y = .agg (nums .u8 m).toArray) (hl : l.length = 16) (hm : m.length = 16) {b : Bool} (hb : decide (l = m) = b) (h : wpList Try.prog ops Q rest (a.put op.dst (.bool b)) w) : wpList Try.prog ops Q (op :: rest) a w :=
  wl_val hw (by unfold execOp; simp only [ho, hx, hy, Sem.run_bind, run_eqGuard_agg w .eql 25 x y _ _ eg_b, eql_bl hl hm, hb, Result.andThen_ok, Sem.run_pure]) h
theorem wl_eqs (hw : Region.wanted op (yielded ops a.tmps) = true) (x y : Operand) {t2 : TypeId} (ho : op.op = .binOp .eql 26 x y t2) {l m : List Int} (hx : a.eval x = .agg (nums .u8 l).toArray) (hy : a.eval y = .agg (nums .u8 m).toArray) (hl : l.length = 8) (hm : m.length = 8) {b : Bool} (hb : decide (l = m) = b) (h : wpList Try.prog ops Q rest (a.put op.dst (.bool b)) w) : wpList Try.prog ops Q (op :: rest) a w :=
  wl_val hw (by unfold execOp; simp only [ho, hx, hy, Sem.run_bind, run_eqGuard_agg w .eql 26 x y _ _ eg_s, eql_sl hl hm, hb, Result.andThen_ok, Sem.run_pure]) h
theorem wl_eqh (hw : Region.wanted op (yielded ops a.tmps) = true) (x y : Operand) {t2 : TypeId} (ho : op.op = .binOp .eql 28 x y t2) {no' : Int} {bl' sl' : List Int} (hx : a.eval x = headV no bl sl) (hy : a.eval y = headV no' bl' sl') (hl : Maps bl sl) (hm : Maps bl' sl') {b : Bool} (hb : decide (no = no' ∧ bl = bl' ∧ sl = sl') = b) (h : wpList Try.prog ops Q rest (a.put op.dst (.bool b)) w) : wpList Try.prog ops Q (op :: rest) a w :=
  wl_val hw (by have e_ := eql_head hl hm (w := w) (no := no) (no' := no'); rw [hb] at e_; unfold headV at hx hy e_; unfold execOp; simp only [ho, hx, hy, Sem.run_bind, run_eqGuard_agg w .eql 28 x y _ _ eg_h, e_, Result.andThen_ok, Sem.run_pure]) h
theorem wl_neh (hw : Region.wanted op (yielded ops a.tmps) = true) (x y : Operand) {t2 : TypeId} (ho : op.op = .binOp .neq 28 x y t2) {no' : Int} {bl' sl' : List Int} (hx : a.eval x = headV no bl sl) (hy : a.eval y = headV no' bl' sl') (hl : Maps bl sl) (hm : Maps bl' sl') {b : Bool} (hb : (!decide (no = no' ∧ bl = bl' ∧ sl = sl')) = b) (h : wpList Try.prog ops Q rest (a.put op.dst (.bool b)) w) : wpList Try.prog ops Q (op :: rest) a w :=
  wl_val hw (by have e_ := neq_head hl hm (w := w) (no := no) (no' := no'); rw [hb] at e_; unfold headV at hx hy e_; unfold execOp; simp only [ho, hx, hy, Sem.run_bind, run_eqGuard_agg w .neq 28 x y _ _ eg_h, e_, Result.andThen_ok, Sem.run_pure]) h
end
theorem index_bl {l : List Int} (hl : l.length = 16) (i : Nat) (hi : i < 16) (W : World) : (Instr.index 25 (.agg (nums .u8 l).toArray) (.int .i64 (i : Int))).run Try.prog W = .ok (.int .u8 (rd l (i : Int))) W := by
  obtain ⟨a0, a1, a2, a3, a4, a5, a6, a7, a8, a9, a10, a11, a12, a13, a14, a15, rfl⟩ := list16 hl
  have h : i = 0 ∨ i = 1 ∨ i = 2 ∨ i = 3 ∨ i = 4 ∨ i = 5 ∨ i = 6 ∨ i = 7 ∨ i = 8 ∨ i = 9 ∨ i = 10 ∨ i = 11 ∨ i = 12 ∨ i = 13 ∨ i = 14 ∨ i = 15 := by omega
  rcases h with rfl | rfl | rfl | rfl | rfl | rfl | rfl | rfl | rfl | rfl | rfl | rfl | rfl | rfl | rfl | rfl <;> (change _ = _; kernel_rfl)
theorem index_sl {l : List Int} (hl : l.length = 8) (i : Nat) (hi : i < 8) (W : World) : (Instr.index 26 (.agg (nums .u8 l).toArray) (.int .i64 (i : Int))).run Try.prog W = .ok (.int .u8 (rd l (i : Int))) W := by
  obtain ⟨a0, a1, a2, a3, a4, a5, a6, a7, rfl⟩ := list8 hl
  have h : i = 0 ∨ i = 1 ∨ i = 2 ∨ i = 3 ∨ i = 4 ∨ i = 5 ∨ i = 6 ∨ i = 7 := by omega
  rcases h with rfl | rfl | rfl | rfl | rfl | rfl | rfl | rfl <;> (change _ = _; kernel_rfl)
theorem results_c1 {P : Program} {fn : Func} {p : Tmp} {ty : TypeId} (h : fn.results = #[.cell p ty]) (tmps : Array Value) (w : World) (g : Nat) (t : TypeId) (cs : Array Value) (fr : Nat × Nat) (d : TypeDesc)
    (hp : tmps.getD p undef = .pointer (some ⟨g, 0, none⟩)) (hg : w.heap[g]? = some (.cells cs t fr))
    (hu : P.underlying ty = some d) (hd : (match d with | .struct _ | .array _ _ => true | _ => false) = true) (hi : (P.info? ty).map (·.size) = some cs.size) :
    (results fn tmps).run P w = .ok (.agg cs) w := by
  have hp' : tmps[p]?.getD undef = .pointer (some ⟨g, 0, none⟩) := by simpa using hp
  simp [results, h, hp', asAddr, run_loadVar_row w g t ty cs fr d hg hu hd hi]
theorem ret_head {fn : Func} {p : Tmp} (h : fn.results = #[.cell p 28]) (tmps : Array Value) (w : World) (g : Nat) {no : Int} {bl sl : List Int} (hp : tmps.getD p undef = .pointer (some ⟨g, 0, none⟩)) (hg : HeadAt w g no bl sl) (hm : Maps bl sl) :
    (results fn tmps).run Try.prog w = .ok (headV no bl sl) w := results_c1 h tmps w g _ _ _ _ hp hg Try.underlying28 rfl (by rw [info_head, List.size_toArray, headC_length hm])
theorem ret_head_t {fn : Func} {p u : Tmp} (h : fn.results = #[.cell p 28, .tmp u]) (tmps : Array Value) (w : World) (g : Nat) {no : Int} {bl sl : List Int} (hp : tmps.getD p undef = .pointer (some ⟨g, 0, none⟩)) (hg : HeadAt w g no bl sl) (hm : Maps bl sl) :
    (results fn tmps).run Try.prog w = .ok (.tuple #[headV no bl sl, tmps.getD u undef]) w := results_ct h tmps w g _ _ _ _ hp hg Try.underlying28 rfl (by rw [info_head, List.size_toArray, headC_length hm])
theorem count_bl {w : World} {g : Nat} {no : Int} {bl sl : List Int} (h : HeadAt w g no bl sl) (hm : Maps bl sl) (hb : Bits.isBytes bl) (n : Int) :
    Calls Try.prog 41 #[.slice (some ⟨g, 1, none⟩) 16 16, .int .i64 n] w fun e w' => e = .returned (.int .i64 (cntZ bl n)) ∧ Below w.heap.size w w' := by
  have := bits_Count.calls 200 (some ⟨g, 1, none⟩) 16 bl n _ w (C_bl h hm) (by rw [hm.1]; exact Nat.le_refl _) (Bits.Count_eq bl hb (by rw [hm.1]; decide) n 200 (by rw [hm.1]; decide))
  rw [hm.1] at this
  exact this
theorem count_sl {w : World} {g : Nat} {no : Int} {bl sl : List Int} (h : HeadAt w g no bl sl) (hm : Maps bl sl) (hb : Bits.isBytes sl) (n : Int) :
    Calls Try.prog 41 #[.slice (some ⟨g, 17, none⟩) 8 8, .int .i64 n] w fun e w' => e = .returned (.int .i64 (cntZ sl n)) ∧ Below w.heap.size w w' := by
  have := bits_Count.calls 200 (some ⟨g, 17, none⟩) 8 sl n _ w (C_sl h hm) (by rw [hm.2]; exact Nat.le_refl _) (Bits.Count_eq sl hb (by rw [hm.2]; decide) n 200 (by rw [hm.2]; decide))
  rw [hm.2] at this
  exact this
theorem hold_head {no no' : Int} {bl sl bl' sl' : List Int} (h : Maps bl sl) (h' : Maps bl' sl') : (headC no bl sl).toArray.size = (headC no' bl' sl').length := by rw [List.size_toArray, headC_length h, headC_length h']
theorem hi_head {no : Int} {bl sl : List Int} (h : Maps bl sl) : (Try.prog.info? 28).map (·.size) = some (headC no bl sl).length := by rw [info_head, headC_length h]
theorem Row8.nil (w : World) : Row8 w (.slice none 0 0) [] := ⟨rfl, .inl ⟨rfl, rfl⟩⟩
theorem info_geo : (Try.prog.info? 23).map (·.size) = some 3 := by kernel_rfl
theorem div8 (i : Nat) (h : i ≤ 1000) : wrap64 (Int.tdiv (i : Int) 8) = ((i / 8 : Nat) : Int) := Bits.div8 i (by omega)
theorem mod8 (i : Nat) : Int.tmod (i : Int) 8 = ((i % 8 : Nat) : Int) := Bits.mod8 i
end Go.Proofs.Ytonkgfgciegknaa.P
