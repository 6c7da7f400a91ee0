/-
What the law GroupPlays calls, told by one value for the program and the reference.
Conditions: none.
-/
import Derived.Test.YtonkgfgciegknaaHandGroupLaw
import Derived.Test.YtonkgfgciegknaaHandGroup9
import Derived.Test.YtonkgfgciegknaaActs
namespace Go.Proofs.Ytonkgfgciegknaa.P
open Go.RowKit Go.Proofs.YtonkgfgciegknaaW.PrintWords Go.Proofs.YtonkgfgciegknaaW.PrintLast Go.Proofs.YtonkgfgciegknaaW.PrintMore
attribute [local go_sem] max2_int min2_int max_two min_two max_three min_three max_four min_four
set_option linter.unusedVariables false
set_option linter.unusedSimpArgs false
theorem wf_i64 {x : Int} (h : (Lit.int .i64 x).wf = true) : -9223372036854775808 ≤ x ∧ x ≤ 9223372036854775807 := by
  simp [Lit.wf, IntKind.min, IntKind.max, IntKind.signed, IntKind.bits] at h
  omega
theorem useB_zero (G I N no : Int) (bl sl : List Int) (i : Int) (on : Bool) : ZeroOn (useBP G I N no bl sl i on) := by
  unfold useBP
  split
  · split
    · exact fun _ => ⟨rfl, rfl, rfl⟩
    · exact fun h => (h rfl).elim
  · exact fun _ => ⟨rfl, rfl, rfl⟩
theorem useS_zero (G I N no : Int) (bl sl : List Int) (i : Int) (on : Bool) : ZeroOn (useSP G I N no bl sl i on) := by
  unfold useSP
  generalize (if no = 0 then (2 : Int) else 0) = z
  split
  · split
    · exact fun _ => ⟨rfl, rfl, rfl⟩
    · exact fun h => (h rfl).elim
  · exact fun _ => ⟨rfl, rfl, rfl⟩
theorem zeros_HM : HM (zeros 16) (zeros 8) := by
  have z : ∀ n, Bits.isBytes (zeros n) := fun n v hv => by rw [List.eq_of_mem_replicate hv]; exact ⟨by decide, by decide⟩
  exact ⟨zeros_maps, z _, z _⟩
theorem useB_ok (G I N no : Int) (bl sl : List Int) (i : Int) (on : Bool) (h : HM bl sl) : HM (useBP G I N no bl sl i on).2.1 (useBP G I N no bl sl i on).2.2.1 ∧ ((useBP G I N no bl sl i on).2.2.2 = 0 → (useBP G I N no bl sl i on).1 = no) := by
  unfold useBP
  split
  · split
    · exact ⟨zeros_HM, fun h => absurd h (by decide)⟩
    · exact ⟨⟨set_maps_b h.maps _ _, Bits.setS_bytes _ h.bytes _ _ (by have q := mayP_zero (by assumption); have g := Geo.R_iff.mp (rightP_R q.1); have := h.maps.1; omega), h.bytes2⟩, fun _ => rfl⟩
  · rename_i hz
    exact ⟨zeros_HM, fun h => absurd h hz⟩
theorem useS_ok (G I N no : Int) (bl sl : List Int) (i : Int) (on : Bool) (h : HM bl sl) : HM (useSP G I N no bl sl i on).2.1 (useSP G I N no bl sl i on).2.2.1 ∧ ((useSP G I N no bl sl i on).2.2.2 = 0 → (useSP G I N no bl sl i on).1 = no) := by
  unfold useSP
  generalize (if no = 0 then (2 : Int) else 0) = z
  split
  · split
    · exact ⟨zeros_HM, fun h => absurd h (by decide)⟩
    · exact ⟨⟨set_maps_s h.maps _ _, h.bytes, Bits.setS_bytes _ h.bytes2 _ _ (by have q := mayP_zero (by assumption); have g := Geo.R_iff.mp (rightP_R q.1); have := h.maps.2; omega)⟩, fun _ => rfl⟩
  · rename_i hz
    exact ⟨zeros_HM, fun h => absurd h hz⟩
theorem recOut_ok {w w' : World} {e : Ending} {q : Int × List Int × List Int × Int} (p : Int × List Int × List Int × Int) (h : RecOut w w' e q) (hk : (q = p ∧ HM p.2.1 p.2.2.1) ∨ (p.2.2.2 ≠ 0 ∧ q.2.2.2 = p.2.2.2)) :
    ∃ (no' : Int) (A1 : Option Addr) (n1 c1 : Nat) (A2 : Option Addr) (n2 c2 : Nat), e = .returned (.tuple #[.agg #[.int .i64 no', .slice A1 n1 c1, .slice A2 n2 c2], .int .i64 p.2.2.2]) ∧ RecOk w' p no' A1 n1 c1 A2 n2 c2 ∧ Below w.heap.size w w' := by
  obtain ⟨A1, c1, A2, c2, rfl, r1, r2, hb⟩ := h
  obtain ⟨A1', n1, c1', A2', n2, c2', e1, e2, he, hr⟩ := recOk_of p q hk r1 r2
  refine ⟨q.1, A1', n1, c1', A2', n2, c2', ?_, hr, hb⟩
  rw [e1, e2, he]
theorem ruseB_u (G I N no : Int) (bl sl : List Int) (A1 : Option Addr) (c1 : Nat) (A2 : Option Addr) (c2 : Nat) (i : Int) (on : Bool) (w : World) (hm : HM bl sl) (h1 : Row8 w (.slice A1 16 c1) bl) (h2 : Row8 w (.slice A2 8 c2) sl) (hi : (Lit.int .i64 i).wf = true) :
    Calls Try.prog 21 #[.agg #[.int .i64 G, .int .i64 I, .int .i64 N], .agg #[.int .i64 no, .slice A1 16 c1, .slice A2 8 c2], .int .i64 i, .bool on] w fun e w' => ∃ (no' : Int) (B1 : Option Addr) (n1 d1 : Nat) (B2 : Option Addr) (n2 d2 : Nat), e = .returned (.tuple #[.agg #[.int .i64 no', .slice B1 n1 d1, .slice B2 n2 d2], .int .i64 (useBP G I N no bl sl i on).2.2.2]) ∧ RecOk w' (useBP G I N no bl sl i on) no' B1 n1 d1 B2 n2 d2 ∧ Below w.heap.size w w' := by
  refine (ruseB_any G I N no bl sl A1 c1 A2 c2 i on w hm h1 h2 (wf_i64 hi)).mono fun e w' h => recOut_ok _ h ?_
  unfold useBR
  by_cases hz : (useBP G I N no bl sl i on).2.2.2 = 0
  · rw [if_pos hz]; exact .inl ⟨rfl, (useB_ok G I N no bl sl i on hm).1⟩
  · rw [if_neg hz]; exact .inr ⟨hz, rfl⟩
theorem ruseS_u (G I N no : Int) (bl sl : List Int) (A1 : Option Addr) (c1 : Nat) (A2 : Option Addr) (c2 : Nat) (i : Int) (on : Bool) (w : World) (hm : HM bl sl) (h1 : Row8 w (.slice A1 16 c1) bl) (h2 : Row8 w (.slice A2 8 c2) sl) (hi : (Lit.int .i64 i).wf = true) :
    Calls Try.prog 23 #[.agg #[.int .i64 G, .int .i64 I, .int .i64 N], .agg #[.int .i64 no, .slice A1 16 c1, .slice A2 8 c2], .int .i64 i, .bool on] w fun e w' => ∃ (no' : Int) (B1 : Option Addr) (n1 d1 : Nat) (B2 : Option Addr) (n2 d2 : Nat), e = .returned (.tuple #[.agg #[.int .i64 no', .slice B1 n1 d1, .slice B2 n2 d2], .int .i64 (useSP G I N no bl sl i on).2.2.2]) ∧ RecOk w' (useSP G I N no bl sl i on) no' B1 n1 d1 B2 n2 d2 ∧ Below w.heap.size w w' := by
  refine (ruseS_any G I N no bl sl A1 c1 A2 c2 i on w hm h1 h2 (wf_i64 hi)).mono fun e w' h => recOut_ok _ h ?_
  unfold useSR
  by_cases hz : (useSP G I N no bl sl i on).2.2.2 = 0
  · rw [if_pos hz]; exact .inl ⟨rfl, (useS_ok G I N no bl sl i on hm).1⟩
  · rw [if_neg hz]; exact .inr ⟨hz, rfl⟩
theorem cell_lt {w : World} {p : Addr} {v : Value} (h : w.cell? p = some v) : p.block < w.heap.size := by
  by_cases hb : p.block < w.heap.size
  · exact hb
  · unfold World.cell? at h
    rw [Array.getElem?_eq_none (by omega)] at h
    simp at h
theorem ActsAt.below {w w1 : World} {A : Option Addr} {l : List (Int × Int × Bool)} (h : ActsAt w A l) (hb : Below w.heap.size w w1) : ActsAt w1 A l := by
  intro i hi
  obtain ⟨a, rfl, h0, h1, h2⟩ := h i hi
  exact ⟨a, rfl, (hb.cell (cell_lt h0)).trans h0, (hb.cell (cell_lt h1)).trans h1, (hb.cell (cell_lt h2)).trans h2⟩
/-- An act, read out of its row. -/
theorem load_act {w : World} {a : Addr} {k n : Int} {b : Bool} (h0 : w.cell? (a.add 0) = some (.int .i64 k)) (h1 : w.cell? (a.add 1) = some (.int .i64 n)) (h2 : w.cell? (a.add 2) = some (.bool b)) : (Instr.loadAt 52 (.pointer (some a))).run Try.prog w = .ok (.agg #[.int .i64 k, .int .i64 n, .bool b]) w := by
  have hl : (loadCells a 3).run Try.prog w = .ok #[.int .i64 k, .int .i64 n, .bool b] w :=
    run_loadCells_list (P := Try.prog) w a [.int .i64 k, .int .i64 n, .bool b] (fun j v hv => by
      match j, hv with
      | 0, hv => cases hv; exact h0
      | 1, hv => cases hv; exact h1
      | 2, hv => cases hv; exact h2)
  have hi := info_act
  have hagg : (isAgg 52).run Try.prog w = .ok true w := by
    unfold isAgg
    rw [Sem.run_bind, run_underlying Try.underlying52 w]
    simp [Sem.run_pure]
  cases hq : Try.prog.info? 52 with
  | none => simp [hq] at hi
  | some i =>
    have hs : i.size = 3 := by simpa [hq] using hi
    simp [Instr.loadAt, Instr.sureAddr, loadVar, Sem.run_bind, hagg, sizeOf, typeInfo, hq, hs, hl, Sem.run_pure]
theorem wl_act {ops : Array Oper} {rest : List Oper} {op : Oper} {a : Act} {w : World} {Q : Exit → Act → World → Prop} (hw : Region.wanted op (yielded ops a.tmps) = true) (x : Operand) (ho : op.op = .load 52 x) {p : Addr} {k n : Int} {b : Bool} (hx : a.eval x = .pointer (some p)) (h0 : w.cell? (p.add 0) = some (.int .i64 k)) (h1 : w.cell? (p.add 1) = some (.int .i64 n)) (h2 : w.cell? (p.add 2) = some (.bool b))
    (h : wpList Try.prog ops Q rest (a.put op.dst (.agg #[.int .i64 k, .int .i64 n, .bool b])) w) : wpList Try.prog ops Q (op :: rest) a w :=
  wl_val hw (by unfold execOp; simp only [ho, hx, Sem.run_bind, load_act h0 h1 h2, Result.andThen_ok, Sem.run_pure]) h
end Go.Proofs.Ytonkgfgciegknaa.P
