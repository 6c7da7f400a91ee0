/-
The law GroupUses, walked by hand.
Conditions: none.
-/
import Derived.Test.YtonkgfgciegknaaHandGroupLaw2
import Derived.Test.YtonkgfgciegknaaHandGroupK
import Derived.Test.YtonkgfgciegknaaGroupRight
import Derived.Test.YtonkgfgciegknaaQuietN
import Derived.Deep.CutBlock
import Derived.Deep.DeepCutAuto
namespace Go.Proofs.Ytonkgfgciegknaa.P
open Go.RowKit Go.Proofs.YtonkgfgciegknaaW.PrintWords Go.Proofs.YtonkgfgciegknaaW.PrintLast Go.Proofs.YtonkgfgciegknaaW.PrintMore
attribute [local go_sem] max2_int min2_int max_two min_two max_three min_three max_four min_four
set_option linter.unusedVariables false
set_option linter.unusedSimpArgs false
/-- A new header that a drawn region makes: not yet there, there and empty, written. -/
def NewH (w0 : World) (g4 g9 : Nat) (q1 : Int) (q2 q3 : List Int) (x : Option (Nat × Bool)) (w_ : World) : Prop :=
  match x with
  | none => True
  | some (g, b) => w0.heap.size ≤ g ∧ g4 ≠ g ∧ g9 ≠ g ∧ HeadAt w_ g (bif b then q1 else 0) (bif b then q2 else zeros 16) (bif b then q3 else zeros 8)
theorem NewH.below {w0 w_ w1 : World} {g4 g9 : Nat} {q1 : Int} {q2 q3 : List Int} {x : Option (Nat × Bool)} (h : NewH w0 g4 g9 q1 q2 q3 x w_) (hb : Below w_.heap.size w_ w1) : NewH w0 g4 g9 q1 q2 q3 x w1 := by
  cases x with
  | none => trivial
  | some y => exact ⟨h.1, h.2.1, h.2.2.1, h.2.2.2.below hb⟩
def ptrOf : Option (Nat × Bool) → Value
  | none => undef
  | some (g, _) => .pointer (some ⟨g, 0, none⟩)
theorem store_head_run {w : World} {o : Oper} {a : Act} {p : Tmp} {v : Operand} (ho : o.op = .store 28 (.tmp p) v) {g : Nat} {n : Int} {b s : List Int} {n1 : Int} {b1 s1 : List Int} (hx : a.eval (.tmp p) = .pointer (some ⟨g, 0, none⟩)) (hy : a.eval v = headV n b s)
    (hg : HeadAt w g n1 b1 s1) (hm : Maps b s) (hm1 : Maps b1 s1) : (execOp a.eval o).run Try.prog w = .ok .skip (w.setRow g (headC n b s).toArray) := by
  unfold execOp headV at *
  simp only [ho, hx, hy, Instr.storeAt, Instr.sureAddr, Sem.run_bind, Sem.run_pure, Result.andThen_ok, run_storeVar_row w g 28 _ _ (headC n b s).toArray hg (by rw [info_head, List.size_toArray, headC_length hm]) (by rw [List.size_toArray, List.size_toArray, headC_length hm, headC_length hm1]) (all_oneCell_toArray (head_one _ _ _))]
def law06_Uses.T7 : Bool × List (List Nat × List Nat) := (true, [([], []), ([], []), ([], []), ([], []), ([2, 3], [2, 3]), ([4], [4]), ([5], [5]), ([0, 1, 6], [0, 1, 6]), ([7], [7]), ([8], [8]), ([8], [8]), ([], []), ([11, 9, 7, 0, 1, 2, 3, 4, 5, 6, 7, 8, 9, 11], [9, 11]), ([10, 12, 0, 1, 2, 3, 4, 5, 6, 7, 8, 9, 10, 11, 12], [10])])
def law06_Uses.B7 : List Nat := [0, 0, 0, 0, 12, 28, 60, 127, 255, 511, 511, 0, 3071, 8191]
theorem law06_Uses.tab7 : rtab .any (opsOf Try.f5 7) = law06_Uses.T7 := by kernel_rfl
theorem law06_Uses.bits7 : waitsOk law06_Uses.T7.2 law06_Uses.B7 = true := by kernel_rfl
def law06_Uses.T10 : Bool × List (List Nat × List Nat) := (true, [([], []), ([], []), ([], []), ([], []), ([2, 3], [2, 3]), ([4], [4]), ([5], [5]), ([0, 1, 6], [0, 1, 6]), ([7], [7]), ([8], [8]), ([8], [8]), ([], []), ([11, 9, 7, 0, 1, 2, 3, 4, 5, 6, 7, 8, 9, 11], [9, 11]), ([10, 12, 0, 1, 2, 3, 4, 5, 6, 7, 8, 9, 10, 11, 12], [10])])
def law06_Uses.B10 : List Nat := [0, 0, 0, 0, 12, 28, 60, 127, 255, 511, 511, 0, 3071, 8191]
theorem law06_Uses.tab10 : rtab .any (opsOf Try.f5 10) = law06_Uses.T10 := by kernel_rfl
theorem law06_Uses.bits10 : waitsOk law06_Uses.T10.2 law06_Uses.B10 = true := by kernel_rfl
def leveelaw06_GroupUses.f (_a0 : Int) (_a1 : Int) (_a2 : Int) (_a3 : Int) (l2 : List (Int × Int × Bool)) (_a4 : Int) : Option Bool := if (l2.all fun q => (Lit.int .i64 q.2.1).wf) = true then some true else none
theorem neAny (no : Int) (P1 P2 : List Int) : (!decide (no = no ∧ P1 = P1 ∧ P2 = P2)) = false := by rw [decide_eq_true ⟨rfl, rfl, rfl⟩]; rfl
theorem find_eq {x y : Int} {A B C : Nat → Prop} (h : (∃ j : Nat, x = (j : Int) ∧ A j ∧ B j ∧ C j ∧ 0 < y) ∨ (x < 0 ∧ y ≤ 0)) : (0 ≤ x ↔ 0 < y) ∧ (!decide (0 ≤ x) == decide (0 < y)) = false := by
  rcases h with ⟨j, rfl, _, _, _, h⟩ | ⟨h1, h2⟩
  · rw [decide_eq_true (by omega : 0 ≤ (j : Int)), decide_eq_true (by omega : 0 < y)]; exact ⟨by omega, rfl⟩
  · rw [decide_eq_false (by omega : ¬ 0 ≤ x), decide_eq_false (by omega : ¬ 0 < y)]; exact ⟨by omega, rfl⟩
theorem freeP_bound {G I N no : Int} {bl sl : List Int} (h : HM bl sl) (hr : rightP G I N no bl sl = true) : (freeP G I N no bl sl).1 ≤ 128 ∧ (freeP G I N no bl sl).2 ≤ 128 := by
  have hg := Geo.R_iff.mp (rightP_R hr)
  have hl := h.maps
  obtain ⟨gn, rfl⟩ : ∃ n : Nat, G = (n : Int) := ⟨G.toNat, by omega⟩
  obtain ⟨gi, rfl⟩ : ∃ n : Nat, I = (n : Int) := ⟨I.toNat, by omega⟩
  have hl1 := hl.1
  have hl2 := hl.2
  have hm : Bits.mostS bl (gn : Int) = gn := most_nat (by omega)
  have hm2 : Bits.mostS sl (gi : Int) = gi := most_nat (by omega)
  have hc := Bits.cnt_le (Bits.bitS bl) gn
  have hc2 := Bits.cnt_le (Bits.bitS sl) gi
  unfold freeP
  rw [if_pos hr]
  simp only [cntZ, hm, hm2]
  rw [wr (by omega) (by omega), wr (by omega) (by omega)]
  constructor <;> omega
theorem wr_i64 {x : Int} (h : x ≤ 128) (h0 : 0 < x) : wrap64 (x - 1) = x - 1 := wr (by omega) (by omega)
set_option maxHeartbeats 32000000 in
set_option maxRecDepth 100000 in
theorem leveelaw06_GroupUses.calls (G I N no : Int) (A2 : Option Addr) (c2 : Nat) (l2 : List (Int × Int × Bool)) (fr : Int) (r : Bool) (w : World) (hr2 : ActsAt w A2 l2) (hc2 : l2.length ≤ c2) (h : leveelaw06_GroupUses.f G I N no l2 fr = some r) :
    Calls Try.prog 5 #[.agg #[.int .i64 G, .int .i64 I, .int .i64 N], .int .i64 no, .slice A2 l2.length c2, .int .i64 fr] w fun e w' => e = .returned (.bool r) ∧ Below w.heap.size w w' := by
  unfold leveelaw06_GroupUses.f at h
  split at h
  case isFalse => exact absurd h (by simp)
  rename_i hall
  obtain rfl := Option.some.inj h
  clear h
  have HWF : Aside0 (∀ (i : Nat) (h : i < l2.length), (Lit.int .i64 l2[i].2.1).wf = true) := ⟨fun i h => List.all_eq_true.mp hall l2[i] (List.getElem_mem h)⟩
  clear hall
  have HZ := Aside0.mk zeros_maps
  have HAC := Aside0.mk hr2
  have HC2 := Aside0.mk hc2
  have HB := Aside0.mk (Below.refl w.heap.size w)
  clear hr2 hc2
  obtain ⟨R, hR⟩ : ∃ R, Geo.R G I N = R := ⟨_, rfl⟩
  have cR : Aside0 (∀ w : World, Calls Try.prog 30 #[.agg #[.int .i64 G, .int .i64 I, .int .i64 N]] w fun e w' => e = .returned (.bool R) ∧ Below w.heap.size w w') := ⟨fun w => leveeref03_Right.calls G I N R w (by rw [Geo.refRight_eq, hR])⟩
  cases R
  case false =>
    clear hR
    go_enter Try.func5, Try.ntmps5
    go_wp2_with (first
        | ((with_reducible refine gate_dst (N := 4) rfl ?_); go_loud (refine box_event ?hg (N := 4) ?hd (cs := ([.int .i64 G, .int .i64 I, .int .i64 N]).toArray) (t := 23) ?hr ?_; (case hd => rfl); (case hg => rfl); (case hr => first | kernel_rfl | (go_simp; done) | (go_simp; rfl)); intro g4 hg w_ hx hb; have GE_HG := Aside0.mk (show w.heap.size ≤ g4 by have := HB.out.size; omega); clear hg; replace HB := Aside0.mk (below_step HB.out hb); clear hb; have HG : Aside0 (w_.heap[g4]? = some (.cells #[.int .i64 G, .int .i64 I, .int .i64 N] 23 (0, 0))) := ⟨hx⟩; clear hx; have cHG_0 := c3_0 HG.out; have cHG_1 := c3_1 HG.out; have cHG_2 := c3_2 HG.out))
        | (go_at_call 30; go_loud ((with_reducible refine (cR.out _).mono ?_); rintro e w_ ⟨rfl, hb⟩; clear cHG_0 cHG_1 cHG_2; replace HB := Aside0.mk (below_step HB.out hb); replace HG := Aside0.mk (blk_below HG.out hb); clear hb; have cHG_0 := c3_0 HG.out; have cHG_1 := c3_1 HG.out; have cHG_2 := c3_2 HG.out))
        | (go_at_call 19; go_loud ((with_reducible refine (known_any _).mono ?_); rintro e w_ ⟨rfl, hb⟩; clear cHG_0 cHG_1 cHG_2; replace HB := Aside0.mk (below_step HB.out hb); replace HG := Aside0.mk (blk_below HG.out hb); clear hb; have cHG_0 := c3_0 HG.out; have cHG_1 := c3_1 HG.out; have cHG_2 := c3_2 HG.out)))
    go_ret
    exact ⟨rfl, HB.out⟩
  by_cases hn0 : no < 0
  case pos =>
    have b1 : decide (no < 0) = true := decide_eq_true hn0
    clear hR hn0
    go_enter Try.func5, Try.ntmps5
    go_wp2_with (first
        | ((with_reducible refine gate_dst (N := 4) rfl ?_); go_loud (refine box_event ?hg (N := 4) ?hd (cs := ([.int .i64 G, .int .i64 I, .int .i64 N]).toArray) (t := 23) ?hr ?_; (case hd => rfl); (case hg => rfl); (case hr => first | kernel_rfl | (go_simp; done) | (go_simp; rfl)); intro g4 hg w_ hx hb; have GE_HG := Aside0.mk (show w.heap.size ≤ g4 by have := HB.out.size; omega); clear hg; replace HB := Aside0.mk (below_step HB.out hb); clear hb; have HG : Aside0 (w_.heap[g4]? = some (.cells #[.int .i64 G, .int .i64 I, .int .i64 N] 23 (0, 0))) := ⟨hx⟩; clear hx; have cHG_0 := c3_0 HG.out; have cHG_1 := c3_1 HG.out; have cHG_2 := c3_2 HG.out))
        | (go_at_call 30; go_loud ((with_reducible refine (cR.out _).mono ?_); rintro e w_ ⟨rfl, hb⟩; clear cHG_0 cHG_1 cHG_2; replace HB := Aside0.mk (below_step HB.out hb); replace HG := Aside0.mk (blk_below HG.out hb); clear hb; have cHG_0 := c3_0 HG.out; have cHG_1 := c3_1 HG.out; have cHG_2 := c3_2 HG.out))
        | (go_at_call 19; go_loud ((with_reducible refine (known_any _).mono ?_); rintro e w_ ⟨rfl, hb⟩; clear cHG_0 cHG_1 cHG_2; replace HB := Aside0.mk (below_step HB.out hb); replace HG := Aside0.mk (blk_below HG.out hb); clear hb; have cHG_0 := c3_0 HG.out; have cHG_1 := c3_1 HG.out; have cHG_2 := c3_2 HG.out)))
    go_ret
    exact ⟨rfl, HB.out⟩
  by_cases hnN : N ≤ no
  case pos =>
    have b1 : decide (no < 0) = false := decide_eq_false hn0
    have b2 : decide (no ≥ N) = true := decide_eq_true hnN
    clear hR hn0 hnN
    go_enter Try.func5, Try.ntmps5
    go_wp2_with (first
        | ((with_reducible refine gate_dst (N := 4) rfl ?_); go_loud (refine box_event ?hg (N := 4) ?hd (cs := ([.int .i64 G, .int .i64 I, .int .i64 N]).toArray) (t := 23) ?hr ?_; (case hd => rfl); (case hg => rfl); (case hr => first | kernel_rfl | (go_simp; done) | (go_simp; rfl)); intro g4 hg w_ hx hb; have GE_HG := Aside0.mk (show w.heap.size ≤ g4 by have := HB.out.size; omega); clear hg; replace HB := Aside0.mk (below_step HB.out hb); clear hb; have HG : Aside0 (w_.heap[g4]? = some (.cells #[.int .i64 G, .int .i64 I, .int .i64 N] 23 (0, 0))) := ⟨hx⟩; clear hx; have cHG_0 := c3_0 HG.out; have cHG_1 := c3_1 HG.out; have cHG_2 := c3_2 HG.out))
        | (go_at_call 30; go_loud ((with_reducible refine (cR.out _).mono ?_); rintro e w_ ⟨rfl, hb⟩; clear cHG_0 cHG_1 cHG_2; replace HB := Aside0.mk (below_step HB.out hb); replace HG := Aside0.mk (blk_below HG.out hb); clear hb; have cHG_0 := c3_0 HG.out; have cHG_1 := c3_1 HG.out; have cHG_2 := c3_2 HG.out))
        | (go_at_call 19; go_loud ((with_reducible refine (known_any _).mono ?_); rintro e w_ ⟨rfl, hb⟩; clear cHG_0 cHG_1 cHG_2; replace HB := Aside0.mk (below_step HB.out hb); replace HG := Aside0.mk (blk_below HG.out hb); clear hb; have cHG_0 := c3_0 HG.out; have cHG_1 := c3_1 HG.out; have cHG_2 := c3_2 HG.out)))
    go_ret
    exact ⟨rfl, HB.out⟩
  have hok : okS G I N no = true := by unfold okS; rw [hR, decide_eq_true (by omega : 0 ≤ no), decide_eq_true (by omega : no < N)]; rfl
  have b1 : decide (no < 0) = false := decide_eq_false hn0
  have b2 : decide (no ≥ N) = false := decide_eq_false hnN
  have cFresh : Aside0 (∀ w : World, Calls Try.prog 13 #[.agg #[.int .i64 G, .int .i64 I, .int .i64 N], .int .i64 no] w fun e w' => e = .returned (.tuple #[headV no (onesL (1 + I / 4).toNat) (slots0 no), .int .i64 0]) ∧ Below w.heap.size w w') := ⟨fun w => fresh_yes G I N no w hok⟩
  have hfm := fresh_HM hok
  have hfr := fresh_right hok
  generalize onesL (1 + I / 4).toNat = r2 at cFresh hfm hfr
  generalize slots0 no = r3 at cFresh hfm hfr
  have HMF := Aside0.mk hfm.maps
  have HMM0 := Aside0.mk hfm
  have HRR0 := Aside0.mk hfr
  clear hfm hfr hok hR hn0 hnN
  go_enter Try.func5, Try.ntmps5
  go_wp2_with (first
      | ((with_reducible refine gate_dst (N := 4) rfl ?_); go_loud (refine box_event ?hg (N := 4) ?hd (cs := ([.int .i64 G, .int .i64 I, .int .i64 N]).toArray) (t := 23) ?hr ?_; (case hd => rfl); (case hg => rfl); (case hr => first | kernel_rfl | (go_simp; done) | (go_simp; rfl)); intro g4 hg w_ hx hb; have GE_HG := Aside0.mk (show w.heap.size ≤ g4 by have := HB.out.size; omega); clear hg; replace HB := Aside0.mk (below_step HB.out hb); clear hb; have HG : Aside0 (w_.heap[g4]? = some (.cells #[.int .i64 G, .int .i64 I, .int .i64 N] 23 (0, 0))) := ⟨hx⟩; clear hx; have cHG_0 := c3_0 HG.out; have cHG_1 := c3_1 HG.out; have cHG_2 := c3_2 HG.out))
      | (go_at_call 30; go_loud ((with_reducible refine (cR.out _).mono ?_); rintro e w_ ⟨rfl, hb⟩; clear cHG_0 cHG_1 cHG_2; replace HB := Aside0.mk (below_step HB.out hb); replace HG := Aside0.mk (blk_below HG.out hb); clear hb; have cHG_0 := c3_0 HG.out; have cHG_1 := c3_1 HG.out; have cHG_2 := c3_2 HG.out))
      | (go_at_call 13; go_loud ((with_reducible refine (cFresh.out _).mono ?_); rintro e w_ ⟨rfl, hb⟩; clear cHG_0 cHG_1 cHG_2; replace HB := Aside0.mk (below_step HB.out hb); replace HG := Aside0.mk (blk_below HG.out hb); clear hb; have cHG_0 := c3_0 HG.out; have cHG_1 := c3_1 HG.out; have cHG_2 := c3_2 HG.out))
      | ((with_reducible refine gate_dst (N := 9) rfl ?_); go_loud (refine box_event ?hg (N := 9) ?hd (cs := (headC 0 (zeros 16) (zeros 8)).toArray) (t := 28) ?hr ?_; (case hd => rfl); (case hg => rfl); (case hr => kernel_rfl); intro g9 hg w_ hx hb; have NE_HG_HX := Aside0.mk (new_ne HG.out hg); have GE_HX := Aside0.mk (show w.heap.size ≤ g9 by have := HB.out.size; omega); clear hg; clear cHG_0 cHG_1 cHG_2; replace HB := Aside0.mk (below_step HB.out hb); replace HG := Aside0.mk (blk_below HG.out hb); clear hb; have HX : Aside0 (HeadAt w_ g9 0 (zeros 16) (zeros 8)) := ⟨hx⟩; clear hx; have cHG_0 := c3_0 HG.out; have cHG_1 := c3_1 HG.out; have cHG_2 := c3_2 HG.out; have cHX_n := cell_no HX.out))
      | ((refine gate_store (t := 28) (p := 9) rfl ?_); go_loud (refine store_all (P := Try.prog) (t := 28) (p := 9) (v := .tmp 50) ?hgd ?hN ?ho g9 (headC no r2 r3) ?hx ?hy _ _ HX.out (hi_head HMF.out) (hold_head HZ.out HMF.out) (head_one _ _ _) w.heap.size w HB.out GE_HX.out ?_; (case hgd => rfl); (case hN => rfl); (case ho => rfl); (case hx => rfl); (case hy => rfl); intro w_ hx_ ho_ hb_; clear cHG_0 cHG_1 cHG_2 cHX_n; replace HG := Aside0.mk ((ho_ _ NE_HG_HX.out).trans HG.out); clear HB; have HB := Aside0.mk hb_; clear hb_; clear HX; have HX : Aside0 (HeadAt w_ g9 no r2 r3) := ⟨hx_⟩; clear hx_ ho_; have cHG_0 := c3_0 HG.out; have cHG_1 := c3_1 HG.out; have cHG_2 := c3_2 HG.out; have cHX_n := cell_no HX.out)))
  clear cHG_0 cHG_1 cHG_2 cHX_n
  clear b1 b2
  go_loopw [11] (fun v11 wr => ∃ (i : Nat) (bl sl : List Int), i ≤ l2.length ∧ i ≤ 60 ∧ v11 = .int .i64 i ∧ Aside0 (HM bl sl) ∧ Aside0 (rightP G I N no bl sl = true) ∧ Aside0 (Below w.heap.size w wr) ∧ Aside0 (wr.heap[g4]? = some (.cells #[.int .i64 G, .int .i64 I, .int .i64 N] 23 (0, 0))) ∧ Aside0 (HeadAt wr g9 no bl sl)) (fun v11 _ => 60 - (intOf v11).toNat)
  case atStart => exact ⟨0, r2, r3, by omega, by omega, rfl, HMM0, HRR0, HB, HG, HX⟩
  case round =>
    clear HB HG HX
    obtain ⟨i, bl, sl, hi, hi2, rfl, HMM, HRR, HB, HG, HX⟩ := hrel
    have HMm := Aside0.mk HMM.out.maps
    have cHG_0 := c3_0 HG.out
    have cHG_1 := c3_1 HG.out
    have cHG_2 := c3_2 HG.out
    have cHX_n := cell_no HX.out
    by_cases hlt : i < l2.length ∧ i < 60
    · obtain ⟨hl, hl6⟩ := hlt
      have b1 : decide ((i : Int) < (l2.length : Int)) = true := decide_eq_true (by omega)
      have b2 : decide ((i : Int) < 60) = true := decide_eq_true (by omega)
      obtain ⟨a, hA, h0, h1, h2⟩ := HAC.out i hl
      have HWN := Aside0.mk (HWF.out i hl)
      obtain ⟨k, n, b, hact⟩ : ∃ k n b, l2[i] = (k, n, b) := ⟨_, _, _, rfl⟩
      rw [hact] at h1 HWN
      clear hact
      subst hA
      have HA1 := Aside0.mk h1
      clear h0 h1 h2
      go_wp2
      obtain ⟨q1, q2, q3, q4, hq⟩ : ∃ q1 q2 q3 q4, useBP G I N no bl sl n true = (q1, q2, q3, q4) := ⟨_, _, _, _, rfl⟩
      have HMQM : Aside0 (HM q2 q3) := ⟨by have q := (useB_ok G I N no bl sl n true HMM.out).1; rw [hq] at q; exact q⟩
      have HMQ := Aside0.mk HMQM.out.maps
      have HK : Aside0 (q4 = 0 → q1 = no ∧ rightP G I N no q2 q3 = true) := ⟨fun e => by obtain ⟨z, h1, h2, h3⟩ := useB_keeps HMM.out HRR.out n (by rw [hq]; exact e); rw [hq] at h1; injection h1 with h1 h4; injection h4 with h4 h5; injection h5 with h5 h6; subst h1; subst h4; subst h5; exact ⟨rfl, h3⟩⟩
      have cUse : Aside0 (∀ w : World, Calls Try.prog 20 #[.agg #[.int .i64 G, .int .i64 I, .int .i64 N], headV no bl sl, .int .i64 n, .bool true] w fun e w' => e = .returned (.tuple #[headV q1 q2 q3, .int .i64 q4]) ∧ Below w.heap.size w w') := ⟨fun w => by have q := useB_any G I N no bl sl n true w HMM.out; rw [hq] at q; exact q⟩
      clear hq
      clear cHG_0 cHG_1 cHG_2 cHX_n
      replace HB := Aside0.mk (below_drew HB.out)
      replace HG := Aside0.mk (blk_drew HG.out)
      replace HX := Aside0.mk (HeadAt.drew HX.out)
      refine QN.q_start (n := 14) (S := fun (x : Option (Nat × Bool)) w_ => Below w.heap.size w w_ ∧ w_.heap[g4]? = some (.cells #[.int .i64 G, .int .i64 I, .int .i64 N] 23 (0, 0)) ∧ HeadAt w_ g9 no bl sl ∧ NewH w g4 g9 q1 q2 q3 x w_) (ds := []) none #[false, false, false, false, false, false, false, false, false, false, false, false, false, false] (by kernel_rfl) rfl rfl ⟨HB.out, HG.out, HX.out, trivial⟩ ?_
      clear HB HG HX
      refine QN.q_tab law06_Uses.tab7 law06_Uses.bits7 (fun HT_ HW_ => ?_)
      refine QN.q_take (i := 0) (N := some 63) (v := ?_) (a' := ?_) #[true, false, false, false, false, false, false, false, false, false, false, false, false, false] rfl rfl (take_ofW HT_.out HW_.out (by kernel_rfl)) (by decide) (QN.quiet_val (by rfl) ?_) ?_ ?_
      rotate_left
      · rintro x w_ ⟨hHB, hHG, hHX, hN⟩
        have HG := Aside0.mk hHG
        clear hHG
        have cHG_0 := c3_0 HG.out
        have cHG_1 := c3_1 HG.out
        have cHG_2 := c3_2 HG.out
        go_simp
        with_reducible rfl
      rotate_left
      · simp only [Act.put, List.setIfInBounds_toArray, List.set_cons_zero, List.set_cons_succ, i64_w, i32_w, List.getElem_toArray, List.getElem_cons_succ, List.getElem_cons_zero]
        rfl
      refine QN.q_take (i := 1) (N := some 64) (v := headV no bl sl) (a' := ?_) #[true, true, false, false, false, false, false, false, false, false, false, false, false, false] rfl rfl (take_ofW HT_.out HW_.out (by kernel_rfl)) (by decide) (QN.quiet_val (by rfl) ?_) ?_ ?_
      · rintro x w_ ⟨hHB, hHG, hHX, hN⟩
        have HX := Aside0.mk hHX
        clear hHX
        have cHX_n := cell_no HX.out
        exact run_loadH (.tmp 9) rfl rfl HX.out HMm.out
      rotate_left
      · simp only [Act.put, List.setIfInBounds_toArray, List.set_cons_zero, List.set_cons_succ, i64_w, i32_w, List.getElem_toArray, List.getElem_cons_succ, List.getElem_cons_zero]
        rfl
      refine QN.q_take (i := 2) (N := some 65) (v := ?_) (a' := ?_) #[true, true, true, false, false, false, false, false, false, false, false, false, false, false] rfl rfl (take_ofW HT_.out HW_.out (by kernel_rfl)) (by decide) (QN.quiet_val (by rfl) ?_) ?_ ?_
      rotate_left
      · intro x w_ _
        go_simp
        with_reducible rfl
      rotate_left
      · simp only [Act.put, List.setIfInBounds_toArray, List.set_cons_zero, List.set_cons_succ, i64_w, i32_w, List.getElem_toArray, List.getElem_cons_succ, List.getElem_cons_zero]
        rfl
      refine QN.q_take (i := 3) (N := some 66) (v := ?_) (a' := ?_) #[true, true, true, true, false, false, false, false, false, false, false, false, false, false] rfl rfl (take_ofW HT_.out HW_.out (by kernel_rfl)) (by decide) (QN.quiet_val (by rfl) ?_) ?_ ?_
      rotate_left
      · intro x w_ _
        go_simp
        with_reducible rfl
      rotate_left
      · simp only [Act.put, List.setIfInBounds_toArray, List.set_cons_zero, List.set_cons_succ, i64_w, i32_w, List.getElem_toArray, List.getElem_cons_succ, List.getElem_cons_zero]
        rfl
      refine QN.q_take (i := 4) (N := some 67) (v := ?_) (a' := ?_) #[true, true, true, true, true, false, false, false, false, false, false, false, false, false] rfl rfl (take_ofW HT_.out HW_.out (by kernel_rfl)) (by decide) (QN.quiet_val (by rfl) ?_) ?_ ?_
      rotate_left
      · intro x w_ _
        go_simp
        with_reducible rfl
      rotate_left
      · simp only [Act.put, List.setIfInBounds_toArray, List.set_cons_zero, List.set_cons_succ, i64_w, i32_w, List.getElem_toArray, List.getElem_cons_succ, List.getElem_cons_zero]
        rfl
      refine QN.q_take (i := 5) (N := some 68) (v := ?_) (a' := ?_) #[true, true, true, true, true, true, false, false, false, false, false, false, false, false] rfl rfl (take_ofW HT_.out HW_.out (by kernel_rfl)) (by decide) (QN.quiet_val (by rfl) ?_) ?_ ?_
      rotate_left
      · intro x w_ _
        go_simp
        with_reducible rfl
      rotate_left
      · simp only [Act.put, List.setIfInBounds_toArray, List.set_cons_zero, List.set_cons_succ, i64_w, i32_w, List.getElem_toArray, List.getElem_cons_succ, List.getElem_cons_zero]
        rfl
      refine QN.q_take (i := 6) (N := some 69) (v := ?_) (a' := ?_) #[true, true, true, true, true, true, true, false, false, false, false, false, false, false] rfl rfl (take_ofW HT_.out HW_.out (by kernel_rfl)) (by decide) (QN.quiet_val (by rfl) ?_) ?_ ?_
      rotate_left
      · rintro x w_ ⟨hHB, hHG, hHX, hN⟩
        have cA_ : w_.cell? { block := (a.add (i * 3)).block, off := (a.add (i * 3)).off + 1 } = some (.int .i64 n) := (hHB.cell (cell_lt HA1.out)).trans HA1.out
        go_simp
        with_reducible rfl
      rotate_left
      · simp only [Act.put, List.setIfInBounds_toArray, List.set_cons_zero, List.set_cons_succ, i64_w, i32_w, List.getElem_toArray, List.getElem_cons_succ, List.getElem_cons_zero]
        rfl
      refine QN.q_take (i := 7) (N := some 70) (v := .tuple #[headV q1 q2 q3, .int .i64 q4]) (a' := ?_) #[true, true, true, true, true, true, true, true, false, false, false, false, false, false] rfl rfl (take_ofW HT_.out HW_.out (by kernel_rfl)) (by decide) (QN.quiet_call Try.func20 (by kernel_rfl) rfl #[(.agg #[.int .i64 G, .int .i64 I, .int .i64 N]), headV no bl sl, .int .i64 n, .bool true] (by rfl) rfl (by (try simp only [List.map_toArray, List.map_cons, List.map_nil]); first | done | rfl) ?_) ?_ ?_
      · rintro x w_ ⟨hHB, hHG, hHX, hN⟩
        with_reducible refine (cUse.out _).mono ?_
        rintro e w_2 ⟨rfl, hb⟩
        exact ⟨rfl, below_step hHB hb, blk_below hHG hb, HeadAt.below hHX hb, hN.below hb⟩
      rotate_left
      · simp only [Act.put, List.setIfInBounds_toArray, List.set_cons_zero, List.set_cons_succ, i64_w, i32_w, List.getElem_toArray, List.getElem_cons_succ, List.getElem_cons_zero]
        rfl
      refine QN.q_take (i := 8) (N := some 62) (v := ?_) (a' := ?_) #[true, true, true, true, true, true, true, true, true, false, false, false, false, false] rfl rfl (take_ofW HT_.out HW_.out (by kernel_rfl)) (by decide) (QN.quiet_val (by rfl) ?_) ?_ ?_
      rotate_left
      · intro x w_ _
        go_simp
        with_reducible rfl
      rotate_left
      · simp only [Act.put, List.setIfInBounds_toArray, List.set_cons_zero, List.set_cons_succ, i64_w, i32_w, List.getElem_toArray, List.getElem_cons_succ, List.getElem_cons_zero]
        rfl
      refine QN.q_take (i := 9) (N := some 71) (v := ?_) (a' := ?_) #[true, true, true, true, true, true, true, true, true, true, false, false, false, false] rfl rfl (take_ofW HT_.out HW_.out (by kernel_rfl)) (by decide) (QN.quiet_val (by rfl) ?_) ?_ ?_
      rotate_left
      · intro x w_ _
        go_simp
        with_reducible rfl
      rotate_left
      · simp only [Act.put, List.setIfInBounds_toArray, List.set_cons_zero, List.set_cons_succ, i64_w, i32_w, List.getElem_toArray, List.getElem_cons_succ, List.getElem_cons_zero]
        rfl
      refine QN.q_take (i := 10) (N := some 72) (v := ?_) (a' := ?_) #[true, true, true, true, true, true, true, true, true, true, true, false, false, false] rfl rfl (take_ofW HT_.out HW_.out (by kernel_rfl)) (by decide) (QN.quiet_val (by rfl) ?_) ?_ ?_
      rotate_left
      · intro x w_ _
        go_simp
        with_reducible rfl
      rotate_left
      · simp only [Act.put, List.setIfInBounds_toArray, List.set_cons_zero, List.set_cons_succ, i64_w, i32_w, List.getElem_toArray, List.getElem_cons_succ, List.getElem_cons_zero]
        rfl
      refine QN.q_new (i := 11) (N := some 12) (f := ptrOf) (Nw := fun x => ∃ g, x = some (g, false)) #[true, true, true, true, true, true, true, true, true, true, true, true, false, false] rfl rfl (one_of HT_.out (by kernel_rfl)) (by decide) (QN.new_val (by rfl) ?_) ?_
      · rintro w_ ⟨hHB, hHG, hHX, hN⟩
        refine ⟨some (w_.heap.size, false), w_.alloc (.cells (headC 0 (zeros 16) (zeros 8)).toArray 28 (0, 0)), by kernel_rfl, ⟨_, rfl⟩, below_alloc hHB _, blk_alloc hHG _, blk_alloc hHX _, hHB.size, ?_, ?_, blk_new _ _⟩
        · have := blk_lt hHG; omega
        · have := blk_lt hHX; omega
      rintro _ ⟨g12, rfl⟩
      refine QN.norm_q (a' := ?_) ?_ ?_
      rotate_left
      · show Act.put _ (some 12) (.pointer (some ⟨g12, 0, none⟩)) = _
        simp only [Act.put, List.setIfInBounds_toArray, List.set_cons_zero, List.set_cons_succ, i64_w, i32_w]
        rfl
      refine QN.q_new (i := 12) (N := none) (f := fun _ => undef) (Nw := fun x => x = some (g12, true)) #[true, true, true, true, true, true, true, true, true, true, true, true, true, false] rfl rfl (one_of HT_.out (by kernel_rfl)) (by decide) (QN.new_skip (by rfl) ?_) ?_
      · rintro w_ ⟨hHB, hHG, hHX, hg0, hg1, hg2, hN⟩
        exact ⟨some (g12, true), _, store_head_run rfl rfl rfl hN HMQ.out zeros_maps, rfl, rfl, below_setRow hHB hg0 _, (setRow_other _ _ _ _ hg1).trans hHG, (setRow_other _ _ _ _ hg2).trans hHX, hg0, hg1, hg2, setRow_heap _ _ _ _ _ _ hN⟩
      rintro _ rfl
      refine QN.norm_q (a' := ?_) ?_ ?_
      rotate_left
      · simp only [Act.put]
        rfl
      refine QN.q_take (i := 13) (N := some 13) (v := ?_) (a' := ?_) #[true, true, true, true, true, true, true, true, true, true, true, true, true, true] rfl rfl (take_ofW HT_.out HW_.out (by kernel_rfl)) (by decide) (QN.quiet_val (by rfl) ?_) ?_ ?_
      rotate_left
      · intro x w_ _
        go_simp
        with_reducible rfl
      rotate_left
      · simp only [Act.put, List.setIfInBounds_toArray, List.set_cons_zero, List.set_cons_succ, i64_w, i32_w, List.getElem_toArray, List.getElem_cons_succ, List.getElem_cons_zero]
        rfl
      refine QN.q_done (done_of HT_.out (by kernel_rfl)) ?_
      rintro w_ ⟨hHB, hHG, hHX, hg0, hg1, hg2, hN⟩
      have HP : Aside0 (HeadAt w_ g12 q1 q2 q3) := ⟨hN⟩
      have GE_HP := Aside0.mk hg0
      have NE_HX_HP := Aside0.mk hg2
      have NE_HG_HP := Aside0.mk hg1
      clear hg0 hg1 hg2 hN
      have HB := Aside0.mk hHB
      have HG := Aside0.mk hHG
      have HX := Aside0.mk hHX
      clear hHB hHG hHX
      have cHG_0 := c3_0 HG.out
      have cHG_1 := c3_1 HG.out
      have cHG_2 := c3_2 HG.out
      have cHX_n := cell_no HX.out
      go_upto_if 74 with fail
      go_cut [] (fun wc => ∃ bl sl : List Int, Aside0 (HM bl sl) ∧ Aside0 (rightP G I N no bl sl = true) ∧ Aside0 (Below w.heap.size w wc) ∧ Aside0 (wc.heap[g4]? = some (.cells #[.int .i64 G, .int .i64 I, .int .i64 N] 23 (0, 0))) ∧ Aside0 (HeadAt wc g9 no bl sl))
      case first =>
        by_cases hq4 : q4 = 0
        · have hk4 : (q4 == 0) = true := beq_iff_eq.mpr hq4
          obtain ⟨e1, HRQ⟩ := HK.out hq4
          subst q1
          have HRQ := Aside0.mk HRQ
          have cHP_n := cell_no HP.out
          clear hq4
          go_wp2_with (first
            | ((with_reducible refine gate_dst (N := 75) rfl ?_); go_loud (refine wl_head ?hw (.tmp 12) ?ho ?hx HP.out HMQ.out ?_; (case hw => first | rfl | (go_simp; done)); (case ho => rfl); (case hx => rfl)))
            | ((refine gate_store (t := 28) (p := 9) rfl ?_); go_loud (refine store_all (P := Try.prog) (t := 28) (p := 9) (v := .tmp 75) ?hgd ?hN ?ho g9 (headC no q2 q3) ?hx ?hy _ _ HX.out (hi_head HMQ.out) (hold_head HMm.out HMQ.out) (head_one _ _ _) w.heap.size w HB.out GE_HX.out ?_; (case hgd => rfl); (case hN => rfl); (case ho => rfl); (case hx => rfl); (case hy => rfl); intro w_ hx_ ho_ hb_; clear cHG_0 cHG_1 cHG_2 cHX_n; replace HG := Aside0.mk ((ho_ _ NE_HG_HX.out).trans HG.out); clear HB; have HB := Aside0.mk hb_; clear hb_; clear HX; have HX : Aside0 (HeadAt w_ g9 no q2 q3) := ⟨hx_⟩; clear hx_ ho_; have cHG_0 := c3_0 HG.out; have cHG_1 := c3_1 HG.out; have cHG_2 := c3_2 HG.out; have cHX_n := cell_no HX.out)))
          go_meet
          case rel => exact ⟨q2, q3, HMQM, HRQ, HB, HG, HX⟩
        · have hk4 : (q4 == 0) = false := beq_eq_false_iff_ne.mpr hq4
          clear hq4
          go_wp2
          go_meet
          case rel => exact ⟨bl, sl, HMM, HRR, HB, HG, HX⟩
      case rest =>
        clear HB HG HX HMM HMm HRR
        obtain ⟨bl, sl, HMM, HRR, HB, HG, HX⟩ := hcut
        have HMm := Aside0.mk HMM.out.maps
        have cHG_0 := c3_0 HG.out
        have cHG_1 := c3_1 HG.out
        have cHG_2 := c3_2 HG.out
        have cHX_n := cell_no HX.out
        go_wp2
        obtain ⟨q1, q2, q3, q4, hq⟩ : ∃ q1 q2 q3 q4, useSP G I N no bl sl n true = (q1, q2, q3, q4) := ⟨_, _, _, _, rfl⟩
        have HMQM : Aside0 (HM q2 q3) := ⟨by have q := (useS_ok G I N no bl sl n true HMM.out).1; rw [hq] at q; exact q⟩
        have HMQ := Aside0.mk HMQM.out.maps
        have HK : Aside0 (q4 = 0 → q1 = no ∧ rightP G I N no q2 q3 = true) := ⟨fun e => by obtain ⟨z, h1, h2, h3⟩ := useS_keeps HMM.out HRR.out n (by rw [hq]; exact e); rw [hq] at h1; injection h1 with h1 h4; injection h4 with h4 h5; injection h5 with h5 h6; subst h1; subst h4; subst h5; exact ⟨rfl, h3⟩⟩
        have cUse : Aside0 (∀ w : World, Calls Try.prog 22 #[.agg #[.int .i64 G, .int .i64 I, .int .i64 N], headV no bl sl, .int .i64 n, .bool true] w fun e w' => e = .returned (.tuple #[headV q1 q2 q3, .int .i64 q4]) ∧ Below w.heap.size w w') := ⟨fun w => by have q := useS_any G I N no bl sl n true w HMM.out; rw [hq] at q; exact q⟩
        clear hq
        clear cHG_0 cHG_1 cHG_2 cHX_n
        replace HB := Aside0.mk (below_drew HB.out)
        replace HG := Aside0.mk (blk_drew HG.out)
        replace HX := Aside0.mk (HeadAt.drew HX.out)
        refine QN.q_start (n := 14) (S := fun (x : Option (Nat × Bool)) w_ => Below w.heap.size w w_ ∧ w_.heap[g4]? = some (.cells #[.int .i64 G, .int .i64 I, .int .i64 N] 23 (0, 0)) ∧ HeadAt w_ g9 no bl sl ∧ NewH w g4 g9 q1 q2 q3 x w_) (ds := []) none #[false, false, false, false, false, false, false, false, false, false, false, false, false, false] (by kernel_rfl) rfl rfl ⟨HB.out, HG.out, HX.out, trivial⟩ ?_
        clear HB HG HX
        refine QN.q_tab law06_Uses.tab10 law06_Uses.bits10 (fun HT_ HW_ => ?_)
        refine QN.q_take (i := 0) (N := some 77) (v := ?_) (a' := ?_) #[true, false, false, false, false, false, false, false, false, false, false, false, false, false] rfl rfl (take_ofW HT_.out HW_.out (by kernel_rfl)) (by decide) (QN.quiet_val (by rfl) ?_) ?_ ?_
        rotate_left
        · rintro x w_ ⟨hHB, hHG, hHX, hN⟩
          have HG := Aside0.mk hHG
          clear hHG
          have cHG_0 := c3_0 HG.out
          have cHG_1 := c3_1 HG.out
          have cHG_2 := c3_2 HG.out
          go_simp
          with_reducible rfl
        rotate_left
        · simp only [Act.put, List.setIfInBounds_toArray, List.set_cons_zero, List.set_cons_succ, i64_w, i32_w, List.getElem_toArray, List.getElem_cons_succ, List.getElem_cons_zero]
          rfl
        refine QN.q_take (i := 1) (N := some 78) (v := headV no bl sl) (a' := ?_) #[true, true, false, false, false, false, false, false, false, false, false, false, false, false] rfl rfl (take_ofW HT_.out HW_.out (by kernel_rfl)) (by decide) (QN.quiet_val (by rfl) ?_) ?_ ?_
        · rintro x w_ ⟨hHB, hHG, hHX, hN⟩
          have HX := Aside0.mk hHX
          clear hHX
          have cHX_n := cell_no HX.out
          exact run_loadH (.tmp 9) rfl rfl HX.out HMm.out
        rotate_left
        · simp only [Act.put, List.setIfInBounds_toArray, List.set_cons_zero, List.set_cons_succ, i64_w, i32_w, List.getElem_toArray, List.getElem_cons_succ, List.getElem_cons_zero]
          rfl
        refine QN.q_take (i := 2) (N := some 79) (v := ?_) (a' := ?_) #[true, true, true, false, false, false, false, false, false, false, false, false, false, false] rfl rfl (take_ofW HT_.out HW_.out (by kernel_rfl)) (by decide) (QN.quiet_val (by rfl) ?_) ?_ ?_
        rotate_left
        · intro x w_ _
          go_simp
          with_reducible rfl
        rotate_left
        · simp only [Act.put, List.setIfInBounds_toArray, List.set_cons_zero, List.set_cons_succ, i64_w, i32_w, List.getElem_toArray, List.getElem_cons_succ, List.getElem_cons_zero]
          rfl
        refine QN.q_take (i := 3) (N := some 80) (v := ?_) (a' := ?_) #[true, true, true, true, false, false, false, false, false, false, false, false, false, false] rfl rfl (take_ofW HT_.out HW_.out (by kernel_rfl)) (by decide) (QN.quiet_val (by rfl) ?_) ?_ ?_
        rotate_left
        · intro x w_ _
          go_simp
          with_reducible rfl
        rotate_left
        · simp only [Act.put, List.setIfInBounds_toArray, List.set_cons_zero, List.set_cons_succ, i64_w, i32_w, List.getElem_toArray, List.getElem_cons_succ, List.getElem_cons_zero]
          rfl
        refine QN.q_take (i := 4) (N := some 81) (v := ?_) (a' := ?_) #[true, true, true, true, true, false, false, false, false, false, false, false, false, false] rfl rfl (take_ofW HT_.out HW_.out (by kernel_rfl)) (by decide) (QN.quiet_val (by rfl) ?_) ?_ ?_
        rotate_left
        · intro x w_ _
          go_simp
          with_reducible rfl
        rotate_left
        · simp only [Act.put, List.setIfInBounds_toArray, List.set_cons_zero, List.set_cons_succ, i64_w, i32_w, List.getElem_toArray, List.getElem_cons_succ, List.getElem_cons_zero]
          rfl
        refine QN.q_take (i := 5) (N := some 82) (v := ?_) (a' := ?_) #[true, true, true, true, true, true, false, false, false, false, false, false, false, false] rfl rfl (take_ofW HT_.out HW_.out (by kernel_rfl)) (by decide) (QN.quiet_val (by rfl) ?_) ?_ ?_
        rotate_left
        · intro x w_ _
          go_simp
          with_reducible rfl
        rotate_left
        · simp only [Act.put, List.setIfInBounds_toArray, List.set_cons_zero, List.set_cons_succ, i64_w, i32_w, List.getElem_toArray, List.getElem_cons_succ, List.getElem_cons_zero]
          rfl
        refine QN.q_take (i := 6) (N := some 83) (v := ?_) (a' := ?_) #[true, true, true, true, true, true, true, false, false, false, false, false, false, false] rfl rfl (take_ofW HT_.out HW_.out (by kernel_rfl)) (by decide) (QN.quiet_val (by rfl) ?_) ?_ ?_
        rotate_left
        · rintro x w_ ⟨hHB, hHG, hHX, hN⟩
          have cA_ : w_.cell? { block := (a.add (i * 3)).block, off := (a.add (i * 3)).off + 1 } = some (.int .i64 n) := (hHB.cell (cell_lt HA1.out)).trans HA1.out
          go_simp
          with_reducible rfl
        rotate_left
        · simp only [Act.put, List.setIfInBounds_toArray, List.set_cons_zero, List.set_cons_succ, i64_w, i32_w, List.getElem_toArray, List.getElem_cons_succ, List.getElem_cons_zero]
          rfl
        refine QN.q_take (i := 7) (N := some 84) (v := .tuple #[headV q1 q2 q3, .int .i64 q4]) (a' := ?_) #[true, true, true, true, true, true, true, true, false, false, false, false, false, false] rfl rfl (take_ofW HT_.out HW_.out (by kernel_rfl)) (by decide) (QN.quiet_call Try.func22 (by kernel_rfl) rfl #[(.agg #[.int .i64 G, .int .i64 I, .int .i64 N]), headV no bl sl, .int .i64 n, .bool true] (by rfl) rfl (by (try simp only [List.map_toArray, List.map_cons, List.map_nil]); first | done | rfl) ?_) ?_ ?_
        · rintro x w_ ⟨hHB, hHG, hHX, hN⟩
          with_reducible refine (cUse.out _).mono ?_
          rintro e w_2 ⟨rfl, hb⟩
          exact ⟨rfl, below_step hHB hb, blk_below hHG hb, HeadAt.below hHX hb, hN.below hb⟩
        rotate_left
        · simp only [Act.put, List.setIfInBounds_toArray, List.set_cons_zero, List.set_cons_succ, i64_w, i32_w, List.getElem_toArray, List.getElem_cons_succ, List.getElem_cons_zero]
          rfl
        refine QN.q_take (i := 8) (N := some 76) (v := ?_) (a' := ?_) #[true, true, true, true, true, true, true, true, true, false, false, false, false, false] rfl rfl (take_ofW HT_.out HW_.out (by kernel_rfl)) (by decide) (QN.quiet_val (by rfl) ?_) ?_ ?_
        rotate_left
        · intro x w_ _
          go_simp
          with_reducible rfl
        rotate_left
        · simp only [Act.put, List.setIfInBounds_toArray, List.set_cons_zero, List.set_cons_succ, i64_w, i32_w, List.getElem_toArray, List.getElem_cons_succ, List.getElem_cons_zero]
          rfl
        refine QN.q_take (i := 9) (N := some 85) (v := ?_) (a' := ?_) #[true, true, true, true, true, true, true, true, true, true, false, false, false, false] rfl rfl (take_ofW HT_.out HW_.out (by kernel_rfl)) (by decide) (QN.quiet_val (by rfl) ?_) ?_ ?_
        rotate_left
        · intro x w_ _
          go_simp
          with_reducible rfl
        rotate_left
        · simp only [Act.put, List.setIfInBounds_toArray, List.set_cons_zero, List.set_cons_succ, i64_w, i32_w, List.getElem_toArray, List.getElem_cons_succ, List.getElem_cons_zero]
          rfl
        refine QN.q_take (i := 10) (N := some 86) (v := ?_) (a' := ?_) #[true, true, true, true, true, true, true, true, true, true, true, false, false, false] rfl rfl (take_ofW HT_.out HW_.out (by kernel_rfl)) (by decide) (QN.quiet_val (by rfl) ?_) ?_ ?_
        rotate_left
        · intro x w_ _
          go_simp
          with_reducible rfl
        rotate_left
        · simp only [Act.put, List.setIfInBounds_toArray, List.set_cons_zero, List.set_cons_succ, i64_w, i32_w, List.getElem_toArray, List.getElem_cons_succ, List.getElem_cons_zero]
          rfl
        refine QN.q_new (i := 11) (N := some 14) (f := ptrOf) (Nw := fun x => ∃ g, x = some (g, false)) #[true, true, true, true, true, true, true, true, true, true, true, true, false, false] rfl rfl (one_of HT_.out (by kernel_rfl)) (by decide) (QN.new_val (by rfl) ?_) ?_
        · rintro w_ ⟨hHB, hHG, hHX, hN⟩
          refine ⟨some (w_.heap.size, false), w_.alloc (.cells (headC 0 (zeros 16) (zeros 8)).toArray 28 (0, 0)), by kernel_rfl, ⟨_, rfl⟩, below_alloc hHB _, blk_alloc hHG _, blk_alloc hHX _, hHB.size, ?_, ?_, blk_new _ _⟩
          · have := blk_lt hHG; omega
          · have := blk_lt hHX; omega
        rintro _ ⟨g14, rfl⟩
        refine QN.norm_q (a' := ?_) ?_ ?_
        rotate_left
        · show Act.put _ (some 14) (.pointer (some ⟨g14, 0, none⟩)) = _
          simp only [Act.put, List.setIfInBounds_toArray, List.set_cons_zero, List.set_cons_succ, i64_w, i32_w]
          rfl
        refine QN.q_new (i := 12) (N := none) (f := fun _ => undef) (Nw := fun x => x = some (g14, true)) #[true, true, true, true, true, true, true, true, true, true, true, true, true, false] rfl rfl (one_of HT_.out (by kernel_rfl)) (by decide) (QN.new_skip (by rfl) ?_) ?_
        · rintro w_ ⟨hHB, hHG, hHX, hg0, hg1, hg2, hN⟩
          exact ⟨some (g14, true), _, store_head_run rfl rfl rfl hN HMQ.out zeros_maps, rfl, rfl, below_setRow hHB hg0 _, (setRow_other _ _ _ _ hg1).trans hHG, (setRow_other _ _ _ _ hg2).trans hHX, hg0, hg1, hg2, setRow_heap _ _ _ _ _ _ hN⟩
        rintro _ rfl
        refine QN.norm_q (a' := ?_) ?_ ?_
        rotate_left
        · simp only [Act.put]
          rfl
        refine QN.q_take (i := 13) (N := some 15) (v := ?_) (a' := ?_) #[true, true, true, true, true, true, true, true, true, true, true, true, true, true] rfl rfl (take_ofW HT_.out HW_.out (by kernel_rfl)) (by decide) (QN.quiet_val (by rfl) ?_) ?_ ?_
        rotate_left
        · intro x w_ _
          go_simp
          with_reducible rfl
        rotate_left
        · simp only [Act.put, List.setIfInBounds_toArray, List.set_cons_zero, List.set_cons_succ, i64_w, i32_w, List.getElem_toArray, List.getElem_cons_succ, List.getElem_cons_zero]
          rfl
        refine QN.q_done (done_of HT_.out (by kernel_rfl)) ?_
        rintro w_ ⟨hHB, hHG, hHX, hg0, hg1, hg2, hN⟩
        have HP : Aside0 (HeadAt w_ g14 q1 q2 q3) := ⟨hN⟩
        have GE_HP := Aside0.mk hg0
        have NE_HX_HP := Aside0.mk hg2
        have NE_HG_HP := Aside0.mk hg1
        clear hg0 hg1 hg2 hN
        have HB := Aside0.mk hHB
        have HG := Aside0.mk hHG
        have HX := Aside0.mk hHX
        clear hHB hHG hHX
        have cHG_0 := c3_0 HG.out
        have cHG_1 := c3_1 HG.out
        have cHG_2 := c3_2 HG.out
        have cHX_n := cell_no HX.out
        by_cases hq4 : q4 = 0
        · have hk4 : (q4 == 0) = true := beq_iff_eq.mpr hq4
          obtain ⟨e1, HRQ⟩ := HK.out hq4
          subst q1
          have HRQ := Aside0.mk HRQ
          have cHP_n := cell_no HP.out
          clear hq4
          go_wp2_with (first
            | ((with_reducible refine gate_dst (N := 89) rfl ?_); go_loud (refine wl_head ?hw (.tmp 14) ?ho ?hx HP.out HMQ.out ?_; (case hw => first | rfl | (go_simp; done)); (case ho => rfl); (case hx => rfl)))
            | ((refine gate_store (t := 28) (p := 9) rfl ?_); go_loud (refine store_all (P := Try.prog) (t := 28) (p := 9) (v := .tmp 89) ?hgd ?hN ?ho g9 (headC no q2 q3) ?hx ?hy _ _ HX.out (hi_head HMQ.out) (hold_head HMm.out HMQ.out) (head_one _ _ _) w.heap.size w HB.out GE_HX.out ?_; (case hgd => rfl); (case hN => rfl); (case ho => rfl); (case hx => rfl); (case hy => rfl); intro w_ hx_ ho_ hb_; clear cHG_0 cHG_1 cHG_2 cHX_n; replace HG := Aside0.mk ((ho_ _ NE_HG_HX.out).trans HG.out); clear HB; have HB := Aside0.mk hb_; clear hb_; clear HX; have HX : Aside0 (HeadAt w_ g9 no q2 q3) := ⟨hx_⟩; clear hx_ ho_; have cHG_0 := c3_0 HG.out; have cHG_1 := c3_1 HG.out; have cHG_2 := c3_2 HG.out; have cHX_n := cell_no HX.out)))
          go_roundw
          case rel => exact ⟨i + 1, q2, q3, by omega, by omega, by go_num, HMQM, HRQ, HB, HG, HX⟩
          case measure => simp [intOf]; omega
        · have hk4 : (q4 == 0) = false := beq_eq_false_iff_ne.mpr hq4
          clear hq4
          go_wp2
          go_roundw
          case rel => exact ⟨i + 1, bl, sl, by omega, by omega, by go_num, HMM, HRR, HB, HG, HX⟩
          case measure => simp [intOf]; omega
    · have bx : ¬ i < l2.length ∨ (i < l2.length ∧ ¬ i < 60 ∧ decide ((i : Int) < 60) = false) := by
        by_cases hl : i < l2.length
        · exact .inr ⟨hl, by omega, decide_eq_false (by omega)⟩
        · exact .inl hl
      clear hlt
      rcases bx with hl | ⟨hl, hl6, b2⟩
      all_goals
        obtain ⟨m, n, hfr⟩ : ∃ m n, freeP G I N no bl sl = (m, n) := ⟨_, _, rfl⟩
        obtain ⟨b, hfb⟩ : ∃ b, findBP G I N no bl sl fr = b := ⟨_, rfl⟩
        obtain ⟨s, hfs⟩ : ∃ s, findSP G I N no bl sl fr = s := ⟨_, rfl⟩
        have HFB := Aside0.mk (findB_free HMM.out fr HRR.out)
        have HFS := Aside0.mk (findS_free HMM.out fr HRR.out)
        have HMN := Aside0.mk (freeP_bound (G := G) (I := I) (N := N) (no := no) HMM.out HRR.out)
        rw [hfr, hfb] at HFB
        rw [hfr, hfs] at HFS
        rw [hfr] at HMN
        have cFree : Aside0 (∀ w : World, Calls Try.prog 24 #[.agg #[.int .i64 G, .int .i64 I, .int .i64 N], headV no bl sl] w fun e w' => e = .returned (.tuple #[.int .i64 m, .int .i64 n]) ∧ Below w.heap.size w w') := ⟨fun w => by have q := free_any G I N no bl sl w HMM.out; rw [hfr] at q; exact q⟩
        have cFB : Aside0 (∀ w : World, Calls Try.prog 26 #[.agg #[.int .i64 G, .int .i64 I, .int .i64 N], headV no bl sl, .int .i64 fr] w fun e w' => e = .returned (.int .i64 b) ∧ Below w.heap.size w w') := ⟨fun w => by have q := findB_any G I N no bl sl fr w HMM.out; rw [hfb] at q; exact q⟩
        have cFS : Aside0 (∀ w : World, Calls Try.prog 28 #[.agg #[.int .i64 G, .int .i64 I, .int .i64 N], headV no bl sl, .int .i64 fr] w fun e w' => e = .returned (.int .i64 s) ∧ Below w.heap.size w w') := ⟨fun w => by have q := findS_any G I N no bl sl fr w HMM.out; rw [hfs] at q; exact q⟩
        have cB := (find_eq HFB.out).1
        have cS := (find_eq HFS.out).2
        clear hfb hfs
        go_upto_if 117 with (first
            | ((with_reducible refine gate_dst (N := 92) rfl ?_); go_loud (refine wl_head ?hw (.tmp 9) ?ho ?hx HX.out HMm.out ?_; (case hw => first | rfl | (go_simp; done)); (case ho => rfl); (case hx => rfl)))
            | (go_at_call 24; go_loud ((with_reducible refine (cFree.out _).mono ?_); rintro e w_ ⟨rfl, hb⟩; clear cHG_0 cHG_1 cHG_2 cHX_n; replace HB := Aside0.mk (below_step HB.out hb); replace HG := Aside0.mk (blk_below HG.out hb); replace HX := Aside0.mk (HeadAt.below HX.out hb); clear hb; have cHG_0 := c3_0 HG.out; have cHG_1 := c3_1 HG.out; have cHG_2 := c3_2 HG.out; have cHX_n := cell_no HX.out))
            | ((with_reducible refine gate_dst (N := 97) rfl ?_); go_loud (refine wl_head ?hw (.tmp 9) ?ho ?hx HX.out HMm.out ?_; (case hw => first | rfl | (go_simp; done)); (case ho => rfl); (case hx => rfl)))
            | (go_at_call 26; go_loud ((with_reducible refine (cFB.out _).mono ?_); rintro e w_ ⟨rfl, hb⟩; clear cHG_0 cHG_1 cHG_2 cHX_n; replace HB := Aside0.mk (below_step HB.out hb); replace HG := Aside0.mk (blk_below HG.out hb); replace HX := Aside0.mk (HeadAt.below HX.out hb); clear hb; have cHG_0 := c3_0 HG.out; have cHG_1 := c3_1 HG.out; have cHG_2 := c3_2 HG.out; have cHX_n := cell_no HX.out))
            | ((with_reducible refine gate_dst (N := 101) rfl ?_); go_loud (refine wl_head ?hw (.tmp 9) ?ho ?hx HX.out HMm.out ?_; (case hw => first | rfl | (go_simp; done)); (case ho => rfl); (case hx => rfl)))
            | (go_at_call 28; go_loud ((with_reducible refine (cFS.out _).mono ?_); rintro e w_ ⟨rfl, hb⟩; clear cHG_0 cHG_1 cHG_2 cHX_n; replace HB := Aside0.mk (below_step HB.out hb); replace HG := Aside0.mk (blk_below HG.out hb); replace HX := Aside0.mk (HeadAt.below HX.out hb); clear hb; have cHG_0 := c3_0 HG.out; have cHG_1 := c3_1 HG.out; have cHG_2 := c3_2 HG.out; have cHX_n := cell_no HX.out)))
        clear cB cS
        go_cut [] (fun wc => Aside0 (Below w.heap.size w wc) ∧ Aside0 (wc.heap[g4]? = some (.cells #[.int .i64 G, .int .i64 I, .int .i64 N] 23 (0, 0))) ∧ Aside0 (HeadAt wc g9 no bl sl))
        case first =>
          rcases HFB.out with ⟨j, hj, h1, h2, h3, h4⟩ | ⟨h1, h2⟩
          · obtain ⟨K1, K2, K3, K4, K5⟩ := useB_right HMM.out j HRR.out h1 h2 h3
            rw [← hj] at K3 K5
            obtain ⟨kk, hk⟩ : ∃ kk, Bits.setS bl j true = kk := ⟨_, rfl⟩
            rw [hk] at K1 K2 K3 K4 K5
            have HMK := Aside0.mk K1.maps
            have cUse1 : Aside0 (∀ w : World, Calls Try.prog 20 #[.agg #[.int .i64 G, .int .i64 I, .int .i64 N], headV no bl sl, .int .i64 b, .bool true] w fun e w' => e = .returned (.tuple #[headV no kk sl, .int .i64 0]) ∧ Below w.heap.size w w') := ⟨fun w => by have q := useB_any G I N no bl sl b true w HMM.out; rw [K3] at q; exact q⟩
            have cUse2 : Aside0 (∀ w : World, Calls Try.prog 20 #[.agg #[.int .i64 G, .int .i64 I, .int .i64 N], headV no kk sl, .int .i64 b, .bool false] w fun e w' => e = .returned (.tuple #[headV no bl sl, .int .i64 0]) ∧ Below w.heap.size w w') := ⟨fun w => by have q := useB_any G I N no kk sl b false w K1; rw [K5] at q; exact q⟩
            obtain ⟨o2, ho2⟩ : ∃ o2, (freeP G I N no kk sl).2 = o2 := ⟨_, rfl⟩
            have cFree1 : Aside0 (∀ w : World, Calls Try.prog 24 #[.agg #[.int .i64 G, .int .i64 I, .int .i64 N], headV no kk sl] w fun e w' => e = .returned (.tuple #[.int .i64 (m - 1), .int .i64 o2]) ∧ Below w.heap.size w w') := ⟨fun w => by have q := free_any G I N no kk sl w K1; rw [K4, ho2, hfr] at q; exact q⟩
            have hwr : wrap64 (m - 1) = m - 1 := wr_i64 HMN.out.1 h4
            have hv : 0 ≤ b := by omega
            clear K1 K2 K3 K4 K5 hj h1 h2 h3 hk ho2
            go_wp2_with (first
                | ((with_reducible refine gate_dst (N := 120) rfl ?_); go_loud (refine wl_head ?hw (.tmp 9) ?ho ?hx HX.out HMm.out ?_; (case hw => first | rfl | (go_simp; done)); (case ho => rfl); (case hx => rfl)))
                | (go_at_call 20; go_loud ((with_reducible refine (cUse1.out _).mono ?_); rintro e w_ ⟨rfl, hb⟩; clear cHG_0 cHG_1 cHG_2 cHX_n; replace HB := Aside0.mk (below_step HB.out hb); replace HG := Aside0.mk (blk_below HG.out hb); replace HX := Aside0.mk (HeadAt.below HX.out hb); clear hb; have cHG_0 := c3_0 HG.out; have cHG_1 := c3_1 HG.out; have cHG_2 := c3_2 HG.out; have cHX_n := cell_no HX.out))
                | ((with_reducible refine gate_dst (N := 20) rfl ?_); go_loud (refine box_event ?hg (N := 20) ?hd (cs := (headC 0 (zeros 16) (zeros 8)).toArray) (t := 28) ?hr ?_; (case hd => rfl); (case hg => rfl); (case hr => kernel_rfl); intro g20 hg w_ hx hb; have NE_HG_HP := Aside0.mk (new_ne HG.out hg); have NE_HX_HP := Aside0.mk (new_ne HX.out hg); have GE_HP := Aside0.mk (show w.heap.size ≤ g20 by have := HB.out.size; omega); clear hg; clear cHG_0 cHG_1 cHG_2 cHX_n; replace HB := Aside0.mk (below_step HB.out hb); replace HG := Aside0.mk (blk_below HG.out hb); replace HX := Aside0.mk (HeadAt.below HX.out hb); clear hb; have HP : Aside0 (HeadAt w_ g20 0 (zeros 16) (zeros 8)) := ⟨hx⟩; clear hx; have cHG_0 := c3_0 HG.out; have cHG_1 := c3_1 HG.out; have cHG_2 := c3_2 HG.out; have cHX_n := cell_no HX.out; have cHP_n := cell_no HP.out))
                | ((refine gate_store (t := 28) (p := 20) rfl ?_); go_loud (refine store_all (P := Try.prog) (t := 28) (p := 20) (v := .tmp 123) ?hgd ?hN ?ho g20 (headC no kk sl) ?hx ?hy _ _ HP.out (hi_head HMK.out) (hold_head HZ.out HMK.out) (head_one _ _ _) w.heap.size w HB.out GE_HP.out ?_; (case hgd => rfl); (case hN => rfl); (case ho => rfl); (case hx => rfl); (case hy => rfl); intro w_ hx_ ho_ hb_; clear cHG_0 cHG_1 cHG_2 cHX_n cHP_n; replace HG := Aside0.mk ((ho_ _ NE_HG_HP.out).trans HG.out); replace HX := Aside0.mk (HeadAt.other HX.out ho_ NE_HX_HP.out); clear HB; have HB := Aside0.mk hb_; clear hb_; clear HP; have HP : Aside0 (HeadAt w_ g20 no kk sl) := ⟨hx_⟩; clear hx_ ho_; have cHG_0 := c3_0 HG.out; have cHG_1 := c3_1 HG.out; have cHG_2 := c3_2 HG.out; have cHX_n := cell_no HX.out; have cHP_n := cell_no HP.out))
                | ((with_reducible refine gate_dst (N := 127) rfl ?_); go_loud (refine wl_head ?hw (.tmp 20) ?ho ?hx HP.out HMK.out ?_; (case hw => first | rfl | (go_simp; done)); (case ho => rfl); (case hx => rfl)))
                | (go_at_call 24; go_loud ((with_reducible refine (cFree1.out _).mono ?_); rintro e w_ ⟨rfl, hb⟩; clear cHG_0 cHG_1 cHG_2 cHX_n cHP_n; replace HB := Aside0.mk (below_step HB.out hb); replace HG := Aside0.mk (blk_below HG.out hb); replace HX := Aside0.mk (HeadAt.below HX.out hb); replace HP := Aside0.mk (HeadAt.below HP.out hb); clear hb; have cHG_0 := c3_0 HG.out; have cHG_1 := c3_1 HG.out; have cHG_2 := c3_2 HG.out; have cHX_n := cell_no HX.out; have cHP_n := cell_no HP.out))
                | ((with_reducible refine gate_dst (N := 133) rfl ?_); go_loud (refine wl_head ?hw (.tmp 20) ?ho ?hx HP.out HMK.out ?_; (case hw => first | rfl | (go_simp; done)); (case ho => rfl); (case hx => rfl)))
                | (go_at_call 20; go_loud ((with_reducible refine (cUse2.out _).mono ?_); rintro e w_ ⟨rfl, hb⟩; clear cHG_0 cHG_1 cHG_2 cHX_n cHP_n; replace HB := Aside0.mk (below_step HB.out hb); replace HG := Aside0.mk (blk_below HG.out hb); replace HX := Aside0.mk (HeadAt.below HX.out hb); replace HP := Aside0.mk (HeadAt.below HP.out hb); clear hb; have cHG_0 := c3_0 HG.out; have cHG_1 := c3_1 HG.out; have cHG_2 := c3_2 HG.out; have cHX_n := cell_no HX.out; have cHP_n := cell_no HP.out))
                | ((with_reducible refine gate_dst (N := 24) rfl ?_); go_loud (refine box_event ?hg (N := 24) ?hd (cs := (headC 0 (zeros 16) (zeros 8)).toArray) (t := 28) ?hr ?_; (case hd => rfl); (case hg => rfl); (case hr => kernel_rfl); intro g24 hg w_ hx hb; have NE_HG_HQ := Aside0.mk (new_ne HG.out hg); have NE_HX_HQ := Aside0.mk (new_ne HX.out hg); have NE_HP_HQ := Aside0.mk (new_ne HP.out hg); have GE_HQ := Aside0.mk (show w.heap.size ≤ g24 by have := HB.out.size; omega); clear hg; clear cHG_0 cHG_1 cHG_2 cHX_n cHP_n; replace HB := Aside0.mk (below_step HB.out hb); replace HG := Aside0.mk (blk_below HG.out hb); replace HX := Aside0.mk (HeadAt.below HX.out hb); replace HP := Aside0.mk (HeadAt.below HP.out hb); clear hb; have HQ : Aside0 (HeadAt w_ g24 0 (zeros 16) (zeros 8)) := ⟨hx⟩; clear hx; have cHG_0 := c3_0 HG.out; have cHG_1 := c3_1 HG.out; have cHG_2 := c3_2 HG.out; have cHX_n := cell_no HX.out; have cHP_n := cell_no HP.out; have cHQ_n := cell_no HQ.out))
                | ((refine gate_store (t := 28) (p := 24) rfl ?_); go_loud (refine store_all (P := Try.prog) (t := 28) (p := 24) (v := .tmp 136) ?hgd ?hN ?ho g24 (headC no bl sl) ?hx ?hy _ _ HQ.out (hi_head HMm.out) (hold_head HZ.out HMm.out) (head_one _ _ _) w.heap.size w HB.out GE_HQ.out ?_; (case hgd => rfl); (case hN => rfl); (case ho => rfl); (case hx => rfl); (case hy => rfl); intro w_ hx_ ho_ hb_; clear cHG_0 cHG_1 cHG_2 cHX_n cHP_n cHQ_n; replace HG := Aside0.mk ((ho_ _ NE_HG_HQ.out).trans HG.out); replace HX := Aside0.mk (HeadAt.other HX.out ho_ NE_HX_HQ.out); replace HP := Aside0.mk (HeadAt.other HP.out ho_ NE_HP_HQ.out); clear HB; have HB := Aside0.mk hb_; clear hb_; clear HQ; have HQ : Aside0 (HeadAt w_ g24 no bl sl) := ⟨hx_⟩; clear hx_ ho_; have cHG_0 := c3_0 HG.out; have cHG_1 := c3_1 HG.out; have cHG_2 := c3_2 HG.out; have cHX_n := cell_no HX.out; have cHP_n := cell_no HP.out; have cHQ_n := cell_no HQ.out))
                | ((with_reducible refine gate_dst (N := 151) rfl ?_); go_loud (refine wl_head ?hw (.tmp 24) ?ho ?hx HQ.out HMm.out ?_; (case hw => first | rfl | (go_simp; done)); (case ho => rfl); (case hx => rfl)))
                | ((with_reducible refine gate_dst (N := 152) rfl ?_); go_loud (refine wl_head ?hw (.tmp 9) ?ho ?hx HX.out HMm.out ?_; (case hw => first | rfl | (go_simp; done)); (case ho => rfl); (case hx => rfl)))
                | ((with_reducible refine gate_dst (N := 153) rfl ?_); go_loud (refine wl_neh ?hw (.tmp 151) (.tmp 152) (t2 := 28) ?ho ?hx ?hy HMm.out HMm.out (neAny no bl sl) ?_; (case hw => first | rfl | (go_simp; done)); (case ho => rfl); (case hx => rfl); (case hy => rfl))))
            go_meet
            case rel => exact ⟨HB, HG, HX⟩
          · have hv : ¬ 0 ≤ b := by omega
            have hv2 : ¬ 0 < m := by omega
            go_wp2
            go_meet
            case rel => exact ⟨HB, HG, HX⟩
        case rest =>
          clear HB HG HX
          obtain ⟨HB, HG, HX⟩ := hcut
          have cHG_0 := c3_0 HG.out
          have cHG_1 := c3_1 HG.out
          have cHG_2 := c3_2 HG.out
          have cHX_n := cell_no HX.out
          go_upto_if 156 with fail
          go_cut [] (fun wc => Aside0 (Below w.heap.size w wc) ∧ Aside0 (wc.heap[g4]? = some (.cells #[.int .i64 G, .int .i64 I, .int .i64 N] 23 (0, 0))) ∧ Aside0 (HeadAt wc g9 no bl sl))
          case first =>
            rcases HFS.out with ⟨j, hj, h1, h2, h3, h4⟩ | ⟨h1, h2⟩
            · obtain ⟨K1, K2, K3, K4, K5⟩ := useS_right HMM.out j HRR.out h1 h2 h3
              rw [← hj] at K3 K5
              obtain ⟨kk, hk⟩ : ∃ kk, Bits.setS sl j true = kk := ⟨_, rfl⟩
              rw [hk] at K1 K2 K3 K4 K5
              have HMK := Aside0.mk K1.maps
              have cUse1 : Aside0 (∀ w : World, Calls Try.prog 22 #[.agg #[.int .i64 G, .int .i64 I, .int .i64 N], headV no bl sl, .int .i64 s, .bool true] w fun e w' => e = .returned (.tuple #[headV no bl kk, .int .i64 0]) ∧ Below w.heap.size w w') := ⟨fun w => by have q := useS_any G I N no bl sl s true w HMM.out; rw [K3] at q; exact q⟩
              have cUse2 : Aside0 (∀ w : World, Calls Try.prog 22 #[.agg #[.int .i64 G, .int .i64 I, .int .i64 N], headV no bl kk, .int .i64 s, .bool false] w fun e w' => e = .returned (.tuple #[headV no bl sl, .int .i64 0]) ∧ Below w.heap.size w w') := ⟨fun w => by have q := useS_any G I N no bl kk s false w K1; rw [K5] at q; exact q⟩
              obtain ⟨o2, ho2⟩ : ∃ o2, (freeP G I N no bl kk).1 = o2 := ⟨_, rfl⟩
              have cFree1 : Aside0 (∀ w : World, Calls Try.prog 24 #[.agg #[.int .i64 G, .int .i64 I, .int .i64 N], headV no bl kk] w fun e w' => e = .returned (.tuple #[.int .i64 o2, .int .i64 (n - 1)]) ∧ Below w.heap.size w w') := ⟨fun w => by have q := free_any G I N no bl kk w K1; rw [K4, ho2, hfr] at q; exact q⟩
              have hwr : wrap64 (n - 1) = n - 1 := wr_i64 HMN.out.2 h4
              have hv : 0 ≤ s := by omega
              clear K1 K2 K3 K4 K5 hj h1 h2 h3 hk ho2
              go_wp2_with (first
                  | ((with_reducible refine gate_dst (N := 159) rfl ?_); go_loud (refine wl_head ?hw (.tmp 9) ?ho ?hx HX.out HMm.out ?_; (case hw => first | rfl | (go_simp; done)); (case ho => rfl); (case hx => rfl)))
                  | (go_at_call 22; go_loud ((with_reducible refine (cUse1.out _).mono ?_); rintro e w_ ⟨rfl, hb⟩; clear cHG_0 cHG_1 cHG_2 cHX_n; replace HB := Aside0.mk (below_step HB.out hb); replace HG := Aside0.mk (blk_below HG.out hb); replace HX := Aside0.mk (HeadAt.below HX.out hb); clear hb; have cHG_0 := c3_0 HG.out; have cHG_1 := c3_1 HG.out; have cHG_2 := c3_2 HG.out; have cHX_n := cell_no HX.out))
                  | ((with_reducible refine gate_dst (N := 26) rfl ?_); go_loud (refine box_event ?hg (N := 26) ?hd (cs := (headC 0 (zeros 16) (zeros 8)).toArray) (t := 28) ?hr ?_; (case hd => rfl); (case hg => rfl); (case hr => kernel_rfl); intro g26 hg w_ hx hb; have NE_HG_HP := Aside0.mk (new_ne HG.out hg); have NE_HX_HP := Aside0.mk (new_ne HX.out hg); have GE_HP := Aside0.mk (show w.heap.size ≤ g26 by have := HB.out.size; omega); clear hg; clear cHG_0 cHG_1 cHG_2 cHX_n; replace HB := Aside0.mk (below_step HB.out hb); replace HG := Aside0.mk (blk_below HG.out hb); replace HX := Aside0.mk (HeadAt.below HX.out hb); clear hb; have HP : Aside0 (HeadAt w_ g26 0 (zeros 16) (zeros 8)) := ⟨hx⟩; clear hx; have cHG_0 := c3_0 HG.out; have cHG_1 := c3_1 HG.out; have cHG_2 := c3_2 HG.out; have cHX_n := cell_no HX.out; have cHP_n := cell_no HP.out))
                  | ((refine gate_store (t := 28) (p := 26) rfl ?_); go_loud (refine store_all (P := Try.prog) (t := 28) (p := 26) (v := .tmp 162) ?hgd ?hN ?ho g26 (headC no bl kk) ?hx ?hy _ _ HP.out (hi_head HMK.out) (hold_head HZ.out HMK.out) (head_one _ _ _) w.heap.size w HB.out GE_HP.out ?_; (case hgd => rfl); (case hN => rfl); (case ho => rfl); (case hx => rfl); (case hy => rfl); intro w_ hx_ ho_ hb_; clear cHG_0 cHG_1 cHG_2 cHX_n cHP_n; replace HG := Aside0.mk ((ho_ _ NE_HG_HP.out).trans HG.out); replace HX := Aside0.mk (HeadAt.other HX.out ho_ NE_HX_HP.out); clear HB; have HB := Aside0.mk hb_; clear hb_; clear HP; have HP : Aside0 (HeadAt w_ g26 no bl kk) := ⟨hx_⟩; clear hx_ ho_; have cHG_0 := c3_0 HG.out; have cHG_1 := c3_1 HG.out; have cHG_2 := c3_2 HG.out; have cHX_n := cell_no HX.out; have cHP_n := cell_no HP.out))
                  | ((with_reducible refine gate_dst (N := 166) rfl ?_); go_loud (refine wl_head ?hw (.tmp 26) ?ho ?hx HP.out HMK.out ?_; (case hw => first | rfl | (go_simp; done)); (case ho => rfl); (case hx => rfl)))
                  | (go_at_call 24; go_loud ((with_reducible refine (cFree1.out _).mono ?_); rintro e w_ ⟨rfl, hb⟩; clear cHG_0 cHG_1 cHG_2 cHX_n cHP_n; replace HB := Aside0.mk (below_step HB.out hb); replace HG := Aside0.mk (blk_below HG.out hb); replace HX := Aside0.mk (HeadAt.below HX.out hb); replace HP := Aside0.mk (HeadAt.below HP.out hb); clear hb; have cHG_0 := c3_0 HG.out; have cHG_1 := c3_1 HG.out; have cHG_2 := c3_2 HG.out; have cHX_n := cell_no HX.out; have cHP_n := cell_no HP.out))
                  | ((with_reducible refine gate_dst (N := 172) rfl ?_); go_loud (refine wl_head ?hw (.tmp 26) ?ho ?hx HP.out HMK.out ?_; (case hw => first | rfl | (go_simp; done)); (case ho => rfl); (case hx => rfl)))
                  | (go_at_call 22; go_loud ((with_reducible refine (cUse2.out _).mono ?_); rintro e w_ ⟨rfl, hb⟩; clear cHG_0 cHG_1 cHG_2 cHX_n cHP_n; replace HB := Aside0.mk (below_step HB.out hb); replace HG := Aside0.mk (blk_below HG.out hb); replace HX := Aside0.mk (HeadAt.below HX.out hb); replace HP := Aside0.mk (HeadAt.below HP.out hb); clear hb; have cHG_0 := c3_0 HG.out; have cHG_1 := c3_1 HG.out; have cHG_2 := c3_2 HG.out; have cHX_n := cell_no HX.out; have cHP_n := cell_no HP.out))
                  | ((with_reducible refine gate_dst (N := 30) rfl ?_); go_loud (refine box_event ?hg (N := 30) ?hd (cs := (headC 0 (zeros 16) (zeros 8)).toArray) (t := 28) ?hr ?_; (case hd => rfl); (case hg => rfl); (case hr => kernel_rfl); intro g30 hg w_ hx hb; have NE_HG_HQ := Aside0.mk (new_ne HG.out hg); have NE_HX_HQ := Aside0.mk (new_ne HX.out hg); have NE_HP_HQ := Aside0.mk (new_ne HP.out hg); have GE_HQ := Aside0.mk (show w.heap.size ≤ g30 by have := HB.out.size; omega); clear hg; clear cHG_0 cHG_1 cHG_2 cHX_n cHP_n; replace HB := Aside0.mk (below_step HB.out hb); replace HG := Aside0.mk (blk_below HG.out hb); replace HX := Aside0.mk (HeadAt.below HX.out hb); replace HP := Aside0.mk (HeadAt.below HP.out hb); clear hb; have HQ : Aside0 (HeadAt w_ g30 0 (zeros 16) (zeros 8)) := ⟨hx⟩; clear hx; have cHG_0 := c3_0 HG.out; have cHG_1 := c3_1 HG.out; have cHG_2 := c3_2 HG.out; have cHX_n := cell_no HX.out; have cHP_n := cell_no HP.out; have cHQ_n := cell_no HQ.out))
                  | ((refine gate_store (t := 28) (p := 30) rfl ?_); go_loud (refine store_all (P := Try.prog) (t := 28) (p := 30) (v := .tmp 175) ?hgd ?hN ?ho g30 (headC no bl sl) ?hx ?hy _ _ HQ.out (hi_head HMm.out) (hold_head HZ.out HMm.out) (head_one _ _ _) w.heap.size w HB.out GE_HQ.out ?_; (case hgd => rfl); (case hN => rfl); (case ho => rfl); (case hx => rfl); (case hy => rfl); intro w_ hx_ ho_ hb_; clear cHG_0 cHG_1 cHG_2 cHX_n cHP_n cHQ_n; replace HG := Aside0.mk ((ho_ _ NE_HG_HQ.out).trans HG.out); replace HX := Aside0.mk (HeadAt.other HX.out ho_ NE_HX_HQ.out); replace HP := Aside0.mk (HeadAt.other HP.out ho_ NE_HP_HQ.out); clear HB; have HB := Aside0.mk hb_; clear hb_; clear HQ; have HQ : Aside0 (HeadAt w_ g30 no bl sl) := ⟨hx_⟩; clear hx_ ho_; have cHG_0 := c3_0 HG.out; have cHG_1 := c3_1 HG.out; have cHG_2 := c3_2 HG.out; have cHX_n := cell_no HX.out; have cHP_n := cell_no HP.out; have cHQ_n := cell_no HQ.out))
                  | ((with_reducible refine gate_dst (N := 190) rfl ?_); go_loud (refine wl_head ?hw (.tmp 30) ?ho ?hx HQ.out HMm.out ?_; (case hw => first | rfl | (go_simp; done)); (case ho => rfl); (case hx => rfl)))
                  | ((with_reducible refine gate_dst (N := 191) rfl ?_); go_loud (refine wl_head ?hw (.tmp 9) ?ho ?hx HX.out HMm.out ?_; (case hw => first | rfl | (go_simp; done)); (case ho => rfl); (case hx => rfl)))
                  | ((with_reducible refine gate_dst (N := 192) rfl ?_); go_loud (refine wl_neh ?hw (.tmp 190) (.tmp 191) (t2 := 28) ?ho ?hx ?hy HMm.out HMm.out (neAny no bl sl) ?_; (case hw => first | rfl | (go_simp; done)); (case ho => rfl); (case hx => rfl); (case hy => rfl))))
              go_meet
              case rel => exact ⟨HB, HG, HX⟩
            · have hv : ¬ 0 ≤ s := by omega
              have hv2 : ¬ 0 < n := by omega
              go_wp2
              go_meet
              case rel => exact ⟨HB, HG, HX⟩
          case rest =>
            clear HB HG HX
            obtain ⟨HB, HG, HX⟩ := hcut
            have cHG_0 := c3_0 HG.out
            have cHG_1 := c3_1 HG.out
            have cHG_2 := c3_2 HG.out
            have cHX_n := cell_no HX.out
            go_wp2_with (first
                | (go_at_call 19; go_loud ((with_reducible refine (known_any _).mono ?_); rintro e w_ ⟨rfl, hb⟩; clear cHG_0 cHG_1 cHG_2 cHX_n; replace HB := Aside0.mk (below_step HB.out hb); replace HG := Aside0.mk (blk_below HG.out hb); replace HX := Aside0.mk (HeadAt.below HX.out hb); clear hb; have cHG_0 := c3_0 HG.out; have cHG_1 := c3_1 HG.out; have cHG_2 := c3_2 HG.out; have cHX_n := cell_no HX.out)))
            go_ret
            exact ⟨rfl, HB.out⟩
end Go.Proofs.Ytonkgfgciegknaa.P