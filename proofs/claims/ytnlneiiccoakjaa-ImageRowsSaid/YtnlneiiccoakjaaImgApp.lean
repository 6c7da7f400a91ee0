/-
Bytes appended to a call's own row, told as a run; a number's two bytes.
Conditions: none.
-/
import Derived.Test.YtnlneiiccoakjaaHandImgUnpack
namespace Go.Proofs.Ytnlneiiccoakjaa.P
open Go.RowKit Go.Proofs.YtnlneiiccoakjaaW.PrintWords Go.Proofs.YtnlneiiccoakjaaW.PrintLast Go.Proofs.YtnlneiiccoakjaaW.PrintMore
attribute [local go_sem] max2_int min2_int max_two min_two max_three min_three max_four min_four
set_option linter.unusedVariables false
set_option linter.unusedSimpArgs false
open Go.Proofs.Ytnlneiiccoakjaa.Num
theorem append_bytes_run {w : World} {base : Nat} {v : Value} {xs ys : List Int} {A : Option Addr} {c : Nat} (HO : w.ownsRow base 5 1 v xs.length (nums .u8 xs)) (HR : (Kd.int .u8).C w A ys.length ys) (hb : base ≤ w.heap.size) (hl : xs.length + ys.length ≤ 140737488355328) :
    ∃ v1 w1, (Builtin.append_ #[22, 22] 22 #[v, .slice A ys.length c]).run Try.prog w = .ok v1 w1 ∧ w1.ownsRow base 5 1 v1 (xs ++ ys).length (nums .u8 (xs ++ ys)) ∧ w.grownBy w1 v.ownBlock ∧ (v1.ownBlock = v.ownBlock ∨ ∃ b, v1.ownBlock = some b ∧ w.heap.size ≤ b) := by
  obtain ⟨i0, hi, hz, hsz, hby⟩ := info_parts info5
  rcases A with _ | ad
  · have h0 : ys.length = 0 := by
      rcases Nat.eq_zero_or_pos ys.length with h0 | h0
      · exact h0
      · obtain ⟨ad, h, _⟩ := (Kd.reads_of_C (d := (0 : Int)) HR).2.2 h0
        cases h
    obtain rfl : ys = [] := List.eq_nil_of_length_eq_zero h0
    refine ⟨v, w, ?_, by simpa using HO, World.grownBy.refl w _, .inl rfl⟩
    rcases HO.2 with ⟨rfl, hn⟩ | ⟨g, cap, cur, rfl, _, _, hnc, _⟩
    · simp [Builtin.append_, run_underlying Try.underlying22, sizeOf, typeInfo, hi, Builtin.lenOf, Builtin.firstCells]
    · simp [Builtin.append_, run_underlying Try.underlying22, sizeOf, typeInfo, hi, Builtin.lenOf, Builtin.firstCells, hnc, storeCells]
  · have hcells : ∀ j u, (nums .u8 ys)[j]? = some u → w.cell? (ad.add j) = some u := by
      intro j u hu
      have hj : j < ys.length := by
        have := (List.getElem?_eq_some_iff.mp hu).1
        rwa [nums_length] at this
      obtain ⟨ad', e, hc⟩ := reads_cells_ HR ys.length (Nat.le_refl _) (by omega)
      injection e with e
      subst e
      rw [List.take_length] at hc
      exact hc j u hu
    obtain ⟨v1, w1, hr, h2, h3, _, h5⟩ := run_append_own_at (P := Try.prog) w base 22 22 5 i0 _ 1 1 Try.underlying22 hi hz hsz hby rfl (by decide) v xs.length (nums .u8 xs) HO ad ys.length c (nums .u8 ys) (by rw [nums_length, Nat.mul_one]) hcells (nums_one_ _ _) (by unfold maxLen; omega) (by omega) hb
    refine ⟨v1, w1, hr, by rw [List.length_append, nums_append]; exact h2, h3, ?_⟩
    rcases h5 with h5 | h5
    · exact .inl h5
    · exact .inr ⟨_, h5, Nat.le_refl _⟩
theorem append_exec8 {w w' : World} {o : Oper} {a : Act} {s x : Operand} {v v' : Value} {A : Option Addr} {m c : Nat} (ho : o.op = .call { callee := .builtin .append, args := #[s, x], argTypes := #[22, 22] }) (hs : a.eval s = v) (hx : a.eval x = .slice A m c) (ht : o.type = 22)
    (hr : (Builtin.append_ #[22, 22] 22 #[v, .slice A m c]).run Try.prog w = .ok v' w') : (execOp a.eval o).run Try.prog w = .ok (.value v') w' := by
  unfold execOp
  simp only [ho, ht, resolve, invoke, builtin, Sem.run_bind, Sem.run_pure, Result.andThen_ok, List.map_toArray, List.map_cons, List.map_nil, hs, hx, hr]
/-- A row of bytes of the call's own, beside a block ga. -/
def OwnB (base ga : Nat) (v : Value) (p : List Int) (w : World) : Prop := w.ownsRow base 5 1 v p.length (nums .u8 p) ∧ some ga ≠ v.ownBlock ∧ ga < w.heap.size
section
variable {base ga : Nat} {v : Value} {p : List Int} {w w1 : World}
theorem OwnB.below (h : OwnB base ga v p w) (hb : Below w.heap.size w w1) : OwnB base ga v p w1 := ⟨pw_own_below h.1 hb, h.2.1, Nat.lt_of_lt_of_le h.2.2 hb.size⟩
theorem OwnB.app {ys : List Int} {A : Option Addr} {c : Nat} (h : OwnB base ga v p w) (HR : (Kd.int .u8).C w A ys.length ys) (hb : base ≤ w.heap.size) (hl : p.length + ys.length ≤ 140737488355328) :
    ∃ v1 w1, (Builtin.append_ #[22, 22] 22 #[v, .slice A ys.length c]).run Try.prog w = .ok v1 w1 ∧ OwnB base ga v1 (p ++ ys) w1 ∧ w.grownBy w1 v.ownBlock ∧ w1.heap[ga]? = w.heap[ga]? := by
  obtain ⟨v1, w1, hr, ho, hg, hat⟩ := append_bytes_run h.1 HR hb hl
  refine ⟨v1, w1, hr, ⟨ho, ?_, Nat.lt_of_lt_of_le h.2.2 hg.size⟩, hg, hg.block ga h.2.2 h.2.1⟩
  rcases hat with e | ⟨b, e, hb⟩
  · rw [e]; exact h.2.1
  · rw [e]
    intro e2
    injection e2 with e2
    have := h.2.2
    omega
end
/-- A block of bytes, of whatever type, is read. -/
theorem blk_reads {w : World} {g t : Nat} {l : List Int} (h : w.heap[g]? = some (.cells (nums .u8 l).toArray t (0, 0))) (hle : l.length ≤ 9223372036854775807) : (Kd.int .u8).C w (some ⟨g, 0, none⟩) l.length l := by
  refine Kd.C_of_reads (d := (0 : Int)) (h1 := fun _ => rfl) ⟨rfl, hle, fun _ => ⟨⟨g, 0, none⟩, rfl, fun j hj => ?_⟩⟩
  rw [Addr.add_lit, Nat.zero_add, blk_cell h, List.getElem?_toArray, nums, List.getElem?_map, List.getElem?_eq_getElem hj]
  simp [hj]
theorem splice_zeros (n : Nat) (l : List Int) (h : l.length = n) : splice (nums .u8 (List.replicate n 0)) 0 (nums .u8 l) = nums .u8 l := splice_all _ _ (by rw [nums_length, nums_length, h, List.length_replicate])
set_option maxHeartbeats 16000000 in
set_option maxRecDepth 100000 in
theorem short_any (n : Int) (w : World) : Calls Try.prog 31 #[.int .i64 n] w fun e w' => ∃ g, e = .returned (.slice (some ⟨g, 0, none⟩) 2 2) ∧ w.heap.size ≤ g ∧ w'.heap[g]? = some (.cells (nums .u8 (putV (IntKind.u64.wrap n) 2)).toArray 70 (0, 0)) ∧ Below w.heap.size w w' := by
  have HB := Aside0.mk (Below.refl w.heap.size w)
  obtain ⟨u, hu⟩ : ∃ u, u = IntKind.u64.wrap n := ⟨_, rfl⟩
  have hu2 : IntKind.u64.wrap n = u := hu.symm
  rw [hu2]
  clear hu
  go_enter Try.func31, Try.ntmps31
  go_wp2_with (first
    | ((with_reducible refine gate_dst (N := 3) rfl ?_); go_loud (refine box_event ?hg (N := 3) ?hd (cs := #[.int .u8 0, .int .u8 0]) (t := 70) ?hr ?_; (case hd => rfl); (case hg => rfl); (case hr => first | kernel_rfl | (go_simp; done) | (go_simp; rfl)); intro g hg w_ hx hb; have GE := Aside0.mk (show w.heap.size ≤ g by rw [hg]; exact HB.out.size); replace HB := Aside0.mk (below_step HB.out hb); have HX : Aside0 (w_.heap[g]? = some (.cells (nums .u8 (List.replicate 2 0)).toArray 70 (0, 0))) := ⟨hx⟩; clear hx hb hg))
    | (go_at_call 32; go_loud ((with_reducible refine (put_cells g 0 2 2 _ _ u _ HX.out (by rw [nums_length]; decide) (by decide)).mono ?_); rintro e w_ ⟨rfl, hx, hb⟩; rw [splice_zeros 2 _ (putV_length _ _)] at hx; replace HB := Aside0.mk (below_weaken HB.out GE.out hb); clear HX; have HX := Aside0.mk hx; clear hx hb)))
  go_ret
  exact ⟨g, rfl, GE.out, HX.out, HB.out⟩
end Go.Proofs.Ytnlneiiccoakjaa.P
