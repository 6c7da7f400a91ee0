/-
The law GroupPlays, walked by hand.
Conditions: none.
-/
import Derived.Test.YtonkgfgciegknaaHandGroupLaw2
import Derived.Test.YtonkgfgciegknaaHandGroupK
import Derived.Deep.CutBlock
import Derived.Deep.DeepCutAuto
namespace Go.Proofs.Ytonkgfgciegknaa.P
open Go.RowKit Go.Proofs.YtonkgfgciegknaaW.PrintWords Go.Proofs.YtonkgfgciegknaaW.PrintLast Go.Proofs.YtonkgfgciegknaaW.PrintMore
abbrev tt : Bool := true
abbrev ff : Bool := false
attribute [local go_sem] max2_int min2_int max_two min_two max_three min_three max_four min_four
set_option linter.unusedVariables false
set_option linter.unusedSimpArgs false
def law06_Plays.T31 : Bool × List (List Nat × List Nat) := (true, [([], []), ([], []), ([0, 1], [0, 1]), ([2], [2]), ([3], [3]), ([3], [3]), ([4, 5, 3], [3, 4, 5]), ([3, 6], [3, 6]), ([7, 3], [7]), ([8], [8]), ([8], [8]), ([8], [8]), ([9, 10, 11, 8, 8], [8, 9, 10, 11]), ([8], [8]), ([8], [8]), ([8], [8]), ([13, 14, 15, 12, 8], [8, 13, 14, 15]), ([12, 16, 8], [8, 12, 16]), ([8, 17], [8, 17]), ([18, 16], [18]), ([19], [19]), ([19], [19]), ([19], [19]), ([20, 21, 22, 19, 19], [19, 20, 21, 22]), ([19], [19]), ([19], [19]), ([19], [19]), ([24, 25, 26, 23, 19], [19, 24, 25, 26]), ([23, 27, 19], [19, 23, 27]), ([19, 28], [19, 28])])
def law06_Plays.B31 : List Nat := [0, 0, 3, 7, 15, 15, 63, 127, 255, 511, 511, 511, 4095, 511, 511, 511, 65535, 131071, 262143, 524287, 1048575, 1048575, 1048575, 8388607, 1048575, 1048575, 1048575, 134217727, 268435455, 536870911]
theorem law06_Plays.tab31 : rtab .any (opsOf Try.f4 31) = law06_Plays.T31 := by kernel_rfl
theorem law06_Plays.bits31 : waitsOk law06_Plays.T31.2 law06_Plays.B31 = true := by kernel_rfl
def leveelaw06_GroupPlays.f (_a0 : Int) (_a1 : Int) (_a2 : Int) (_a3 : Int) (l2 : List (Int × Int × Bool)) (_a4 : Int) : Option Bool := if (l2.all fun q => (Lit.int .i64 q.2.1).wf) = true then some true else none
set_option maxHeartbeats 32000000 in
set_option maxRecDepth 100000 in
theorem leveelaw06_GroupPlays.calls (G I N no : Int) (A2 : Option Addr) (c2 : Nat) (l2 : List (Int × Int × Bool)) (fr : Int) (r : Bool) (w : World) (hr2 : ActsAt w A2 l2) (hc2 : l2.length ≤ c2) (h : leveelaw06_GroupPlays.f G I N no l2 fr = some r) :
    Calls Try.prog 4 #[.agg #[.int .i64 G, .int .i64 I, .int .i64 N], .int .i64 no, .slice A2 l2.length c2, .int .i64 fr] w fun e w' => e = .returned (.bool r) ∧ Below w.heap.size w w' := by
  unfold leveelaw06_GroupPlays.f at h
  split at h
  case isFalse => exact absurd h (by simp)
  rename_i hall
  obtain rfl := Option.some.inj h
  clear h
  have HWF : Aside0 (∀ (i : Nat) (h : i < l2.length), (Lit.int .i64 l2[i].2.1).wf = true) := ⟨fun i h => List.all_eq_true.mp hall l2[i] (List.getElem_mem h)⟩
  clear hall
  obtain ⟨r1, r2, r3, r4, hf⟩ : ∃ r1 r2 r3 r4, freshP G I N no = (r1, r2, r3, r4) := ⟨_, _, _, _, rfl⟩
  have HMF : Aside0 (Maps r2 r3) := ⟨by have q := freshP_maps G I N no; rw [hf] at q; exact q⟩
  have HZF : Aside0 (ZeroOn (r1, r2, r3, r4)) := ⟨by have q := fresh_zero G I N no; rw [hf] at q; exact q⟩
  have cFresh : Aside0 (∀ w : World, Calls Try.prog 13 #[.agg #[.int .i64 G, .int .i64 I, .int .i64 N], .int .i64 no] w fun e w' => e = .returned (.tuple #[headV r1 r2 r3, .int .i64 r4]) ∧ Below w.heap.size w w') := ⟨fun w => by have q := fresh_u G I N no w; rw [hf] at q; exact q⟩
  have cRFresh : Aside0 (∀ w : World, Calls Try.prog 14 #[.agg #[.int .i64 G, .int .i64 I, .int .i64 N], .int .i64 no] w fun e w' => ∃ (no' : Int) (A1 : Option Addr) (n1 c1 : Nat) (A2 : Option Addr) (n2 c2 : Nat), e = .returned (.tuple #[.agg #[.int .i64 no', .slice A1 n1 c1, .slice A2 n2 c2], .int .i64 r4]) ∧ RecOk w' (r1, r2, r3, r4) no' A1 n1 c1 A2 n2 c2 ∧ Below w.heap.size w w') := ⟨fun w => by have q := refFresh_u G I N no w; rw [hf] at q; exact q⟩
  have HZ := Aside0.mk zeros_maps
  have HAC := Aside0.mk hr2
  have HC2 := Aside0.mk hc2
  have HB := Aside0.mk (Below.refl w.heap.size w)
  clear hr2 hc2 hf
  by_cases hE : r4 = 0
  case neg =>
    have hE1 : (r4 != 0) = true := bne_iff_ne.mpr hE
    clear hE
    go_enter Try.func4, Try.ntmps4
    go_wp2_with (first
        | ((with_reducible refine gate_dst (N := 4) rfl ?_); go_loud (refine box_event ?hg (N := 4) ?hd (cs := ([.int .i64 G, .int .i64 I, .int .i64 N]).toArray) (t := 23) ?hr ?_; (case hd => rfl); (case hg => rfl); (case hr => first | kernel_rfl | (go_simp; done) | (go_simp; rfl)); intro g4 hg w_ hx hb; have GE_HG := Aside0.mk (show w.heap.size ≤ g4 by have := HB.out.size; omega); clear hg; replace HB := Aside0.mk (below_step HB.out hb); clear hb; have HG : Aside0 (w_.heap[g4]? = some (.cells #[.int .i64 G, .int .i64 I, .int .i64 N] 23 (0, 0))) := ⟨hx⟩; clear hx; have cHG_0 := c3_0 HG.out; have cHG_1 := c3_1 HG.out; have cHG_2 := c3_2 HG.out))
        | (go_at_call 13; go_loud ((with_reducible refine (cFresh.out _).mono ?_); rintro e w_ ⟨rfl, hb⟩; clear cHG_0 cHG_1 cHG_2; replace HB := Aside0.mk (below_step HB.out hb); replace HG := Aside0.mk (blk_below HG.out hb); clear hb; have cHG_0 := c3_0 HG.out; have cHG_1 := c3_1 HG.out; have cHG_2 := c3_2 HG.out))
        | ((with_reducible refine gate_dst (N := 9) rfl ?_); go_loud (refine box_event ?hg (N := 9) ?hd (cs := (headC 0 (zeros 16) (zeros 8)).toArray) (t := 28) ?hr ?_; (case hd => rfl); (case hg => rfl); (case hr => kernel_rfl); intro g9 hg w_ hx hb; have NE_HG_HX := Aside0.mk (new_ne HG.out hg); have GE_HX := Aside0.mk (show w.heap.size ≤ g9 by have := HB.out.size; omega); clear hg; clear cHG_0 cHG_1 cHG_2; replace HB := Aside0.mk (below_step HB.out hb); replace HG := Aside0.mk (blk_below HG.out hb); clear hb; have HX : Aside0 (HeadAt w_ g9 0 (zeros 16) (zeros 8)) := ⟨hx⟩; clear hx; have cHG_0 := c3_0 HG.out; have cHG_1 := c3_1 HG.out; have cHG_2 := c3_2 HG.out; have cHX_n := cell_no HX.out))
        | ((refine gate_store (t := 28) (p := 9) rfl ?_); go_loud (refine store_all (P := Try.prog) (t := 28) (p := 9) (v := .tmp 25) ?hgd ?hN ?ho g9 (headC r1 r2 r3) ?hx ?hy _ _ HX.out (hi_head HMF.out) (hold_head HZ.out HMF.out) (head_one _ _ _) w.heap.size w HB.out GE_HX.out ?_; (case hgd => rfl); (case hN => rfl); (case ho => rfl); (case hx => rfl); (case hy => rfl); intro w_ hx_ ho_ hb_; clear cHG_0 cHG_1 cHG_2 cHX_n; replace HG := Aside0.mk ((ho_ _ NE_HG_HX.out).trans HG.out); clear HB; have HB := Aside0.mk hb_; clear hb_; clear HX; have HX : Aside0 (HeadAt w_ g9 r1 r2 r3) := ⟨hx_⟩; clear hx_ ho_; have cHG_0 := c3_0 HG.out; have cHG_1 := c3_1 HG.out; have cHG_2 := c3_2 HG.out; have cHX_n := cell_no HX.out))
        | (go_at_call 14; go_loud ((with_reducible refine (cRFresh.out _).mono ?_); rintro e w_ ⟨no2, J1, u1, f1, J2, u2, f2, rfl, hr1, hb⟩; clear cHG_0 cHG_1 cHG_2 cHX_n; replace HB := Aside0.mk (below_step HB.out hb); replace HG := Aside0.mk (blk_below HG.out hb); replace HX := Aside0.mk (HeadAt.below HX.out hb); clear hb; have HRF := Aside0.mk hr1; clear hr1; have cHG_0 := c3_0 HG.out; have cHG_1 := c3_1 HG.out; have cHG_2 := c3_2 HG.out; have cHX_n := cell_no HX.out))
        | ((with_reducible refine gate_dst (N := 11) rfl ?_); go_loud (refine box_event ?hg (N := 11) ?hd (cs := ([.int .i64 0, .slice none 0 0, .slice none 0 0]).toArray) (t := 31) ?hr ?_; (case hd => rfl); (case hg => rfl); (case hr => first | kernel_rfl | (go_simp; done) | (go_simp; rfl)); intro g11 hg w_ hx hb; have NE_HG_HY := Aside0.mk (new_ne HG.out hg); have NE_HX_HY := Aside0.mk (new_ne HX.out hg); have GE_HY := Aside0.mk (show w.heap.size ≤ g11 by have := HB.out.size; omega); clear hg; clear cHG_0 cHG_1 cHG_2 cHX_n; replace HB := Aside0.mk (below_step HB.out hb); replace HG := Aside0.mk (blk_below HG.out hb); replace HX := Aside0.mk (HeadAt.below HX.out hb); replace HRF := Aside0.mk (RecOk.below HRF.out hb); clear hb; have HY : Aside0 (w_.heap[g11]? = some (.cells #[.int .i64 0, .slice none 0 0, .slice none 0 0] 31 (0, 0))) := ⟨hx⟩; clear hx; have cHG_0 := c3_0 HG.out; have cHG_1 := c3_1 HG.out; have cHG_2 := c3_2 HG.out; have cHX_n := cell_no HX.out; have cHY_0 := c3_0 HY.out; have cHY_1 := c3_1 HY.out; have cHY_2 := c3_2 HY.out))
        | ((refine gate_store (t := 31) (p := 11) rfl ?_); go_loud (refine store_all (P := Try.prog) (t := 31) (p := 11) (v := .tmp 31) ?hgd ?hN ?ho g11 ([.int .i64 no2, .slice J1 u1 f1, .slice J2 u2 f2]) ?hx ?hy _ _ HY.out (info_rec) (rfl) (by intro v_ hv_; simp only [List.mem_cons, List.not_mem_nil, or_false] at hv_; rcases hv_ with rfl | rfl | rfl <;> rfl) w.heap.size w HB.out GE_HY.out ?_; (case hgd => rfl); (case hN => rfl); (case ho => rfl); (case hx => rfl); (case hy => rfl); intro w_ hx_ ho_ hb_; clear cHG_0 cHG_1 cHG_2 cHX_n cHY_0 cHY_1 cHY_2; replace HG := Aside0.mk ((ho_ _ NE_HG_HY.out).trans HG.out); replace HX := Aside0.mk (HeadAt.other HX.out ho_ NE_HX_HY.out); replace HRF := Aside0.mk (RecOk.other HRF.out HY.out (by decide) ho_); clear HB; have HB := Aside0.mk hb_; clear hb_; clear HY; have HY : Aside0 (w_.heap[g11]? = some (.cells #[.int .i64 no2, .slice J1 u1 f1, .slice J2 u2 f2] 31 (0, 0))) := ⟨hx_⟩; clear hx_ ho_; have cHG_0 := c3_0 HG.out; have cHG_1 := c3_1 HG.out; have cHG_2 := c3_2 HG.out; have cHX_n := cell_no HX.out; have cHY_0 := c3_0 HY.out; have cHY_1 := c3_1 HY.out; have cHY_2 := c3_2 HY.out))
        | ((with_reducible refine gate_dst (N := 33) rfl ?_); go_loud (refine wl_head ?hw (.tmp 9) ?ho ?hx HX.out HMF.out ?_; (case hw => first | rfl | (go_simp; done)); (case ho => rfl); (case hx => rfl)))
        | (go_at_call 15; go_loud ((with_reducible refine (same_u (r1, r2, r3, r4) no2 J1 u1 f1 J2 u2 f2 _ HZF.out HRF.out).mono ?_); rintro e w_ ⟨rfl, hb⟩; clear cHG_0 cHG_1 cHG_2 cHX_n cHY_0 cHY_1 cHY_2; replace HB := Aside0.mk (below_step HB.out hb); replace HG := Aside0.mk (blk_below HG.out hb); replace HX := Aside0.mk (HeadAt.below HX.out hb); replace HRF := Aside0.mk (RecOk.below HRF.out hb); replace HY := Aside0.mk (blk_below HY.out hb); clear hb; have cHG_0 := c3_0 HG.out; have cHG_1 := c3_1 HG.out; have cHG_2 := c3_2 HG.out; have cHX_n := cell_no HX.out; have cHY_0 := c3_0 HY.out; have cHY_1 := c3_1 HY.out; have cHY_2 := c3_2 HY.out))
        | (go_at_call 19; go_loud ((with_reducible refine (known_any _).mono ?_); rintro e w_ ⟨rfl, hb⟩; clear cHG_0 cHG_1 cHG_2 cHX_n cHY_0 cHY_1 cHY_2; replace HB := Aside0.mk (below_step HB.out hb); replace HG := Aside0.mk (blk_below HG.out hb); replace HX := Aside0.mk (HeadAt.below HX.out hb); replace HRF := Aside0.mk (RecOk.below HRF.out hb); replace HY := Aside0.mk (blk_below HY.out hb); clear hb; have cHG_0 := c3_0 HG.out; have cHG_1 := c3_1 HG.out; have cHG_2 := c3_2 HG.out; have cHX_n := cell_no HX.out; have cHY_0 := c3_0 HY.out; have cHY_1 := c3_1 HY.out; have cHY_2 := c3_2 HY.out)))
    go_ret
    exact ⟨rfl, HB.out⟩
  subst hE
  go_enter Try.func4, Try.ntmps4
  go_wp2_with (first
      | ((with_reducible refine gate_dst (N := 4) rfl ?_); go_loud (refine box_event ?hg (N := 4) ?hd (cs := ([.int .i64 G, .int .i64 I, .int .i64 N]).toArray) (t := 23) ?hr ?_; (case hd => rfl); (case hg => rfl); (case hr => first | kernel_rfl | (go_simp; done) | (go_simp; rfl)); intro g4 hg w_ hx hb; have GE_HG := Aside0.mk (show w.heap.size ≤ g4 by have := HB.out.size; omega); clear hg; replace HB := Aside0.mk (below_step HB.out hb); clear hb; have HG : Aside0 (w_.heap[g4]? = some (.cells #[.int .i64 G, .int .i64 I, .int .i64 N] 23 (0, 0))) := ⟨hx⟩; clear hx; have cHG_0 := c3_0 HG.out; have cHG_1 := c3_1 HG.out; have cHG_2 := c3_2 HG.out))
      | (go_at_call 13; go_loud ((with_reducible refine (cFresh.out _).mono ?_); rintro e w_ ⟨rfl, hb⟩; clear cHG_0 cHG_1 cHG_2; replace HB := Aside0.mk (below_step HB.out hb); replace HG := Aside0.mk (blk_below HG.out hb); clear hb; have cHG_0 := c3_0 HG.out; have cHG_1 := c3_1 HG.out; have cHG_2 := c3_2 HG.out))
      | ((with_reducible refine gate_dst (N := 9) rfl ?_); go_loud (refine box_event ?hg (N := 9) ?hd (cs := (headC 0 (zeros 16) (zeros 8)).toArray) (t := 28) ?hr ?_; (case hd => rfl); (case hg => rfl); (case hr => kernel_rfl); intro g9 hg w_ hx hb; have NE_HG_HX := Aside0.mk (new_ne HG.out hg); have GE_HX := Aside0.mk (show w.heap.size ≤ g9 by have := HB.out.size; omega); clear hg; clear cHG_0 cHG_1 cHG_2; replace HB := Aside0.mk (below_step HB.out hb); replace HG := Aside0.mk (blk_below HG.out hb); clear hb; have HX : Aside0 (HeadAt w_ g9 0 (zeros 16) (zeros 8)) := ⟨hx⟩; clear hx; have cHG_0 := c3_0 HG.out; have cHG_1 := c3_1 HG.out; have cHG_2 := c3_2 HG.out; have cHX_n := cell_no HX.out))
      | ((refine gate_store (t := 28) (p := 9) rfl ?_); go_loud (refine store_all (P := Try.prog) (t := 28) (p := 9) (v := .tmp 25) ?hgd ?hN ?ho g9 (headC r1 r2 r3) ?hx ?hy _ _ HX.out (hi_head HMF.out) (hold_head HZ.out HMF.out) (head_one _ _ _) w.heap.size w HB.out GE_HX.out ?_; (case hgd => rfl); (case hN => rfl); (case ho => rfl); (case hx => rfl); (case hy => rfl); intro w_ hx_ ho_ hb_; clear cHG_0 cHG_1 cHG_2 cHX_n; replace HG := Aside0.mk ((ho_ _ NE_HG_HX.out).trans HG.out); clear HB; have HB := Aside0.mk hb_; clear hb_; clear HX; have HX : Aside0 (HeadAt w_ g9 r1 r2 r3) := ⟨hx_⟩; clear hx_ ho_; have cHG_0 := c3_0 HG.out; have cHG_1 := c3_1 HG.out; have cHG_2 := c3_2 HG.out; have cHX_n := cell_no HX.out))
      | (go_at_call 14; go_loud ((with_reducible refine (cRFresh.out _).mono ?_); rintro e w_ ⟨no2, J1, u1, f1, J2, u2, f2, rfl, hr1, hb⟩; clear cHG_0 cHG_1 cHG_2 cHX_n; replace HB := Aside0.mk (below_step HB.out hb); replace HG := Aside0.mk (blk_below HG.out hb); replace HX := Aside0.mk (HeadAt.below HX.out hb); clear hb; have HRF := Aside0.mk hr1; clear hr1; have cHG_0 := c3_0 HG.out; have cHG_1 := c3_1 HG.out; have cHG_2 := c3_2 HG.out; have cHX_n := cell_no HX.out))
      | ((with_reducible refine gate_dst (N := 11) rfl ?_); go_loud (refine box_event ?hg (N := 11) ?hd (cs := ([.int .i64 0, .slice none 0 0, .slice none 0 0]).toArray) (t := 31) ?hr ?_; (case hd => rfl); (case hg => rfl); (case hr => first | kernel_rfl | (go_simp; done) | (go_simp; rfl)); intro g11 hg w_ hx hb; have NE_HG_HY := Aside0.mk (new_ne HG.out hg); have NE_HX_HY := Aside0.mk (new_ne HX.out hg); have GE_HY := Aside0.mk (show w.heap.size ≤ g11 by have := HB.out.size; omega); clear hg; clear cHG_0 cHG_1 cHG_2 cHX_n; replace HB := Aside0.mk (below_step HB.out hb); replace HG := Aside0.mk (blk_below HG.out hb); replace HX := Aside0.mk (HeadAt.below HX.out hb); replace HRF := Aside0.mk (RecOk.below HRF.out hb); clear hb; have HY : Aside0 (w_.heap[g11]? = some (.cells #[.int .i64 0, .slice none 0 0, .slice none 0 0] 31 (0, 0))) := ⟨hx⟩; clear hx; have cHG_0 := c3_0 HG.out; have cHG_1 := c3_1 HG.out; have cHG_2 := c3_2 HG.out; have cHX_n := cell_no HX.out; have cHY_0 := c3_0 HY.out; have cHY_1 := c3_1 HY.out; have cHY_2 := c3_2 HY.out))
      | ((refine gate_store (t := 31) (p := 11) rfl ?_); go_loud (refine store_all (P := Try.prog) (t := 31) (p := 11) (v := .tmp 31) ?hgd ?hN ?ho g11 ([.int .i64 no2, .slice J1 u1 f1, .slice J2 u2 f2]) ?hx ?hy _ _ HY.out (info_rec) (rfl) (by intro v_ hv_; simp only [List.mem_cons, List.not_mem_nil, or_false] at hv_; rcases hv_ with rfl | rfl | rfl <;> rfl) w.heap.size w HB.out GE_HY.out ?_; (case hgd => rfl); (case hN => rfl); (case ho => rfl); (case hx => rfl); (case hy => rfl); intro w_ hx_ ho_ hb_; clear cHG_0 cHG_1 cHG_2 cHX_n cHY_0 cHY_1 cHY_2; replace HG := Aside0.mk ((ho_ _ NE_HG_HY.out).trans HG.out); replace HX := Aside0.mk (HeadAt.other HX.out ho_ NE_HX_HY.out); replace HRF := Aside0.mk (RecOk.other HRF.out HY.out (by decide) ho_); clear HB; have HB := Aside0.mk hb_; clear hb_; clear HY; have HY : Aside0 (w_.heap[g11]? = some (.cells #[.int .i64 no2, .slice J1 u1 f1, .slice J2 u2 f2] 31 (0, 0))) := ⟨hx_⟩; clear hx_ ho_; have cHG_0 := c3_0 HG.out; have cHG_1 := c3_1 HG.out; have cHG_2 := c3_2 HG.out; have cHX_n := cell_no HX.out; have cHY_0 := c3_0 HY.out; have cHY_1 := c3_1 HY.out; have cHY_2 := c3_2 HY.out))
      | ((with_reducible refine gate_dst (N := 33) rfl ?_); go_loud (refine wl_head ?hw (.tmp 9) ?ho ?hx HX.out HMF.out ?_; (case hw => first | rfl | (go_simp; done)); (case ho => rfl); (case hx => rfl)))
      | (go_at_call 15; go_loud ((with_reducible refine (same_u (r1, r2, r3, 0) no2 J1 u1 f1 J2 u2 f2 _ HZF.out HRF.out).mono ?_); rintro e w_ ⟨rfl, hb⟩; clear cHG_0 cHG_1 cHG_2 cHX_n cHY_0 cHY_1 cHY_2; replace HB := Aside0.mk (below_step HB.out hb); replace HG := Aside0.mk (blk_below HG.out hb); replace HX := Aside0.mk (HeadAt.below HX.out hb); replace HRF := Aside0.mk (RecOk.below HRF.out hb); replace HY := Aside0.mk (blk_below HY.out hb); clear hb; have cHG_0 := c3_0 HG.out; have cHG_1 := c3_1 HG.out; have cHG_2 := c3_2 HG.out; have cHX_n := cell_no HX.out; have cHY_0 := c3_0 HY.out; have cHY_1 := c3_1 HY.out; have cHY_2 := c3_2 HY.out))
      | (go_at_call 19; go_loud ((with_reducible refine (known_any _).mono ?_); rintro e w_ ⟨rfl, hb⟩; clear cHG_0 cHG_1 cHG_2 cHX_n cHY_0 cHY_1 cHY_2; replace HB := Aside0.mk (below_step HB.out hb); replace HG := Aside0.mk (blk_below HG.out hb); replace HX := Aside0.mk (HeadAt.below HX.out hb); replace HRF := Aside0.mk (RecOk.below HRF.out hb); replace HY := Aside0.mk (blk_below HY.out hb); clear hb; have cHG_0 := c3_0 HG.out; have cHG_1 := c3_1 HG.out; have cHG_2 := c3_2 HG.out; have cHX_n := cell_no HX.out; have cHY_0 := c3_0 HY.out; have cHY_1 := c3_1 HY.out; have cHY_2 := c3_2 HY.out)))
  obtain ⟨hn1, hn2, hn3, hmm, hw1, hw2⟩ := HRF.out rfl
  have hn1' : r1 = no2 := hn1.symm
  subst hn1'
  subst hn2
  subst hn3
  have HMM0 := Aside0.mk hmm
  have HW1 := Aside0.mk hw1
  have HW2 := Aside0.mk hw2
  clear hw1 hw2 HRF hn1 hmm
  clear cHG_0 cHG_1 cHG_2 cHX_n cHY_0 cHY_1 cHY_2
  go_loopw [13] (fun v13 wr => ∃ (i : Nat) (bl sl : List Int) (B1 : Option Addr) (d1 : Nat) (B2 : Option Addr) (d2 : Nat), i ≤ l2.length ∧ i ≤ 60 ∧ v13 = .int .i64 i ∧ Aside0 (HM bl sl) ∧ Aside0 (Below w.heap.size w wr) ∧ Aside0 (wr.heap[g4]? = some (.cells #[.int .i64 G, .int .i64 I, .int .i64 N] 23 (0, 0))) ∧ Aside0 (HeadAt wr g9 r1 bl sl) ∧ Aside0 (Row8 wr (.slice B1 16 d1) bl) ∧ Aside0 (Row8 wr (.slice B2 8 d2) sl) ∧ Aside0 (wr.heap[g11]? = some (.cells #[.int .i64 r1, .slice B1 16 d1, .slice B2 8 d2] 31 (0, 0)))) (fun v13 _ => 60 - (intOf v13).toNat)
  case atStart => exact ⟨0, r2, r3, J1, f1, J2, f2, by omega, by omega, rfl, HMM0, HB, HG, HX, HW1, HW2, HY⟩
  case round =>
    clear HB HG HX HW1 HW2 HY
    obtain ⟨i, bl, sl, B1, d1, B2, d2, hi, hi2, rfl, HMM, HB, HG, HX, HV1, HV2, HY⟩ := hrel
    have HMm := Aside0.mk HMM.out.maps
    have cHG_0 := c3_0 HG.out
    have cHG_1 := c3_1 HG.out
    have cHG_2 := c3_2 HG.out
    have cHX_n := cell_no HX.out
    have cHY_0 := c3_0 HY.out
    have cHY_1 := c3_1 HY.out
    have cHY_2 := c3_2 HY.out
    by_cases hl : i < l2.length
    · have b1 : decide ((i : Int) < (l2.length : Int)) = true := decide_eq_true (by omega)
      by_cases hlt : i < 60
      · have b2 : decide ((i : Int) < 60) = true := decide_eq_true (by omega)
        obtain ⟨a, hA, h0, h1, h2⟩ := (ActsAt.below HAC.out HB.out) i hl
        have HWN := Aside0.mk (HWF.out i hl)
        obtain ⟨k, n, b, hact⟩ : ∃ k n b, l2[i] = (k, n, b) := ⟨_, _, _, rfl⟩
        rw [hact] at h0 h1 h2 HWN
        clear hact
        subst hA
        go_upto_block 2 with (first
            | ((with_reducible refine gate_dst (N := 55) rfl ?_); go_loud (refine wl_act ?hw (.tmp 54) ?ho ?hx h0 h1 h2 ?_; (case hw => first | rfl | (go_simp; done)); (case ho => rfl); (case hx => rfl)))
            | ((with_reducible refine gate_dst (N := 14) rfl ?_); go_loud (refine box_event ?hg (N := 14) ?hd (cs := ([.int .i64 0, .int .i64 0, .bool false]).toArray) (t := 52) ?hr ?_; (case hd => rfl); (case hg => rfl); (case hr => first | kernel_rfl | (go_simp; done) | (go_simp; rfl)); intro g14 hg w_ hx hb; have NE_HG_HA := Aside0.mk (new_ne HG.out hg); have NE_HX_HA := Aside0.mk (new_ne HX.out hg); have NE_HY_HA := Aside0.mk (new_ne HY.out hg); have GE_HA := Aside0.mk (show w.heap.size ≤ g14 by have := HB.out.size; omega); clear hg; clear cHG_0 cHG_1 cHG_2 cHX_n cHY_0 cHY_1 cHY_2; replace HB := Aside0.mk (below_step HB.out hb); replace HG := Aside0.mk (blk_below HG.out hb); replace HX := Aside0.mk (HeadAt.below HX.out hb); replace HV1 := Aside0.mk (Row8.below HV1.out hb); replace HV2 := Aside0.mk (Row8.below HV2.out hb); replace HY := Aside0.mk (blk_below HY.out hb); clear hb; have HA : Aside0 (w_.heap[g14]? = some (.cells #[.int .i64 0, .int .i64 0, .bool false] 52 (0, 0))) := ⟨hx⟩; clear hx; have cHG_0 := c3_0 HG.out; have cHG_1 := c3_1 HG.out; have cHG_2 := c3_2 HG.out; have cHX_n := cell_no HX.out; have cHY_0 := c3_0 HY.out; have cHY_1 := c3_1 HY.out; have cHY_2 := c3_2 HY.out; have cHA_0 := c3_0 HA.out; have cHA_1 := c3_1 HA.out; have cHA_2 := c3_2 HA.out))
            | ((refine gate_store (t := 52) (p := 14) rfl ?_); go_loud (refine store_all (P := Try.prog) (t := 52) (p := 14) (v := .tmp 55) ?hgd ?hN ?ho g14 ([.int .i64 k, .int .i64 n, .bool b]) ?hx ?hy _ _ HA.out (info_act) (rfl) (by intro v_ hv_; simp only [List.mem_cons, List.not_mem_nil, or_false] at hv_; rcases hv_ with rfl | rfl | rfl <;> rfl) w.heap.size w HB.out GE_HA.out ?_; (case hgd => rfl); (case hN => rfl); (case ho => rfl); (case hx => rfl); (case hy => rfl); intro w_ hx_ ho_ hb_; clear cHG_0 cHG_1 cHG_2 cHX_n cHY_0 cHY_1 cHY_2 cHA_0 cHA_1 cHA_2; replace HG := Aside0.mk ((ho_ _ NE_HG_HA.out).trans HG.out); replace HX := Aside0.mk (HeadAt.other HX.out ho_ NE_HX_HA.out); replace HV1 := Aside0.mk (Row8.other HV1.out HA.out (by decide) ho_); replace HV2 := Aside0.mk (Row8.other HV2.out HA.out (by decide) ho_); replace HY := Aside0.mk ((ho_ _ NE_HY_HA.out).trans HY.out); clear HB; have HB := Aside0.mk hb_; clear hb_; clear HA; have HA : Aside0 (w_.heap[g14]? = some (.cells #[.int .i64 k, .int .i64 n, .bool b] 52 (0, 0))) := ⟨hx_⟩; clear hx_ ho_; have cHG_0 := c3_0 HG.out; have cHG_1 := c3_1 HG.out; have cHG_2 := c3_2 HG.out; have cHX_n := cell_no HX.out; have cHY_0 := c3_0 HY.out; have cHY_1 := c3_1 HY.out; have cHY_2 := c3_2 HY.out; have cHA_0 := c3_0 HA.out; have cHA_1 := c3_1 HA.out; have cHA_2 := c3_2 HA.out))
            | ((with_reducible refine gate_dst (N := 56) rfl ?_); go_loud (refine wl_head ?hw (.tmp 9) ?ho ?hx HX.out HMm.out ?_; (case hw => first | rfl | (go_simp; done)); (case ho => rfl); (case hx => rfl)))
            | ((with_reducible refine gate_dst (N := 15) rfl ?_); go_loud (refine box_event ?hg (N := 15) ?hd (cs := (headC 0 (zeros 16) (zeros 8)).toArray) (t := 28) ?hr ?_; (case hd => rfl); (case hg => rfl); (case hr => kernel_rfl); intro g15 hg w_ hx hb; have NE_HG_HP := Aside0.mk (new_ne HG.out hg); have NE_HX_HP := Aside0.mk (new_ne HX.out hg); have NE_HY_HP := Aside0.mk (new_ne HY.out hg); have NE_HA_HP := Aside0.mk (new_ne HA.out hg); have GE_HP := Aside0.mk (show w.heap.size ≤ g15 by have := HB.out.size; omega); clear hg; clear cHG_0 cHG_1 cHG_2 cHX_n cHY_0 cHY_1 cHY_2 cHA_0 cHA_1 cHA_2; replace HB := Aside0.mk (below_step HB.out hb); replace HG := Aside0.mk (blk_below HG.out hb); replace HX := Aside0.mk (HeadAt.below HX.out hb); replace HV1 := Aside0.mk (Row8.below HV1.out hb); replace HV2 := Aside0.mk (Row8.below HV2.out hb); replace HY := Aside0.mk (blk_below HY.out hb); replace HA := Aside0.mk (blk_below HA.out hb); clear hb; have HP : Aside0 (HeadAt w_ g15 0 (zeros 16) (zeros 8)) := ⟨hx⟩; clear hx; have cHG_0 := c3_0 HG.out; have cHG_1 := c3_1 HG.out; have cHG_2 := c3_2 HG.out; have cHX_n := cell_no HX.out; have cHY_0 := c3_0 HY.out; have cHY_1 := c3_1 HY.out; have cHY_2 := c3_2 HY.out; have cHA_0 := c3_0 HA.out; have cHA_1 := c3_1 HA.out; have cHA_2 := c3_2 HA.out; have cHP_n := cell_no HP.out))
            | ((refine gate_store (t := 28) (p := 15) rfl ?_); go_loud (refine store_all (P := Try.prog) (t := 28) (p := 15) (v := .tmp 56) ?hgd ?hN ?ho g15 (headC r1 bl sl) ?hx ?hy _ _ HP.out (hi_head HMm.out) (hold_head HZ.out HMm.out) (head_one _ _ _) w.heap.size w HB.out GE_HP.out ?_; (case hgd => rfl); (case hN => rfl); (case ho => rfl); (case hx => rfl); (case hy => rfl); intro w_ hx_ ho_ hb_; clear cHG_0 cHG_1 cHG_2 cHX_n cHY_0 cHY_1 cHY_2 cHA_0 cHA_1 cHA_2 cHP_n; replace HG := Aside0.mk ((ho_ _ NE_HG_HP.out).trans HG.out); replace HX := Aside0.mk (HeadAt.other HX.out ho_ NE_HX_HP.out); replace HV1 := Aside0.mk (Row8.other HV1.out HP.out (by decide) ho_); replace HV2 := Aside0.mk (Row8.other HV2.out HP.out (by decide) ho_); replace HY := Aside0.mk ((ho_ _ NE_HY_HP.out).trans HY.out); replace HA := Aside0.mk ((ho_ _ NE_HA_HP.out).trans HA.out); clear HB; have HB := Aside0.mk hb_; clear hb_; clear HP; have HP : Aside0 (HeadAt w_ g15 r1 bl sl) := ⟨hx_⟩; clear hx_ ho_; have cHG_0 := c3_0 HG.out; have cHG_1 := c3_1 HG.out; have cHG_2 := c3_2 HG.out; have cHX_n := cell_no HX.out; have cHY_0 := c3_0 HY.out; have cHY_1 := c3_1 HY.out; have cHY_2 := c3_2 HY.out; have cHA_0 := c3_0 HA.out; have cHA_1 := c3_1 HA.out; have cHA_2 := c3_2 HA.out; have cHP_n := cell_no HP.out))
            | ((with_reducible refine gate_dst (N := 16) rfl ?_); go_loud (refine box_event ?hg (N := 16) ?hd (cs := ([.int .i64 0, .slice none 0 0, .slice none 0 0]).toArray) (t := 31) ?hr ?_; (case hd => rfl); (case hg => rfl); (case hr => first | kernel_rfl | (go_simp; done) | (go_simp; rfl)); intro g16 hg w_ hx hb; have NE_HG_HP2 := Aside0.mk (new_ne HG.out hg); have NE_HX_HP2 := Aside0.mk (new_ne HX.out hg); have NE_HY_HP2 := Aside0.mk (new_ne HY.out hg); have NE_HA_HP2 := Aside0.mk (new_ne HA.out hg); have NE_HP_HP2 := Aside0.mk (new_ne HP.out hg); have GE_HP2 := Aside0.mk (show w.heap.size ≤ g16 by have := HB.out.size; omega); clear hg; clear cHG_0 cHG_1 cHG_2 cHX_n cHY_0 cHY_1 cHY_2 cHA_0 cHA_1 cHA_2 cHP_n; replace HB := Aside0.mk (below_step HB.out hb); replace HG := Aside0.mk (blk_below HG.out hb); replace HX := Aside0.mk (HeadAt.below HX.out hb); replace HV1 := Aside0.mk (Row8.below HV1.out hb); replace HV2 := Aside0.mk (Row8.below HV2.out hb); replace HY := Aside0.mk (blk_below HY.out hb); replace HA := Aside0.mk (blk_below HA.out hb); replace HP := Aside0.mk (HeadAt.below HP.out hb); clear hb; have HP2 : Aside0 (w_.heap[g16]? = some (.cells #[.int .i64 0, .slice none 0 0, .slice none 0 0] 31 (0, 0))) := ⟨hx⟩; clear hx; have cHG_0 := c3_0 HG.out; have cHG_1 := c3_1 HG.out; have cHG_2 := c3_2 HG.out; have cHX_n := cell_no HX.out; have cHY_0 := c3_0 HY.out; have cHY_1 := c3_1 HY.out; have cHY_2 := c3_2 HY.out; have cHA_0 := c3_0 HA.out; have cHA_1 := c3_1 HA.out; have cHA_2 := c3_2 HA.out; have cHP_n := cell_no HP.out; have cHP2_0 := c3_0 HP2.out; have cHP2_1 := c3_1 HP2.out; have cHP2_2 := c3_2 HP2.out))
            | ((refine gate_store (t := 31) (p := 16) rfl ?_); go_loud (refine store_all (P := Try.prog) (t := 31) (p := 16) (v := .tmp 57) ?hgd ?hN ?ho g16 ([.int .i64 r1, .slice B1 16 d1, .slice B2 8 d2]) ?hx ?hy _ _ HP2.out (info_rec) (rfl) (by intro v_ hv_; simp only [List.mem_cons, List.not_mem_nil, or_false] at hv_; rcases hv_ with rfl | rfl | rfl <;> rfl) w.heap.size w HB.out GE_HP2.out ?_; (case hgd => rfl); (case hN => rfl); (case ho => rfl); (case hx => rfl); (case hy => rfl); intro w_ hx_ ho_ hb_; clear cHG_0 cHG_1 cHG_2 cHX_n cHY_0 cHY_1 cHY_2 cHA_0 cHA_1 cHA_2 cHP_n cHP2_0 cHP2_1 cHP2_2; replace HG := Aside0.mk ((ho_ _ NE_HG_HP2.out).trans HG.out); replace HX := Aside0.mk (HeadAt.other HX.out ho_ NE_HX_HP2.out); replace HV1 := Aside0.mk (Row8.other HV1.out HP2.out (by decide) ho_); replace HV2 := Aside0.mk (Row8.other HV2.out HP2.out (by decide) ho_); replace HY := Aside0.mk ((ho_ _ NE_HY_HP2.out).trans HY.out); replace HA := Aside0.mk ((ho_ _ NE_HA_HP2.out).trans HA.out); replace HP := Aside0.mk (HeadAt.other HP.out ho_ NE_HP_HP2.out); clear HB; have HB := Aside0.mk hb_; clear hb_; clear HP2; have HP2 : Aside0 (w_.heap[g16]? = some (.cells #[.int .i64 r1, .slice B1 16 d1, .slice B2 8 d2] 31 (0, 0))) := ⟨hx_⟩; clear hx_ ho_; have cHG_0 := c3_0 HG.out; have cHG_1 := c3_1 HG.out; have cHG_2 := c3_2 HG.out; have cHX_n := cell_no HX.out; have cHY_0 := c3_0 HY.out; have cHY_1 := c3_1 HY.out; have cHY_2 := c3_2 HY.out; have cHA_0 := c3_0 HA.out; have cHA_1 := c3_1 HA.out; have cHA_2 := c3_2 HA.out; have cHP_n := cell_no HP.out; have cHP2_0 := c3_0 HP2.out; have cHP2_1 := c3_1 HP2.out; have cHP2_2 := c3_2 HP2.out)))
        go_cut [10, 12] (fun s10 s12 wc => ∃ (q1 : Int) (q2 q3 : List Int) (q4 no1 : Int) (K1 : Option Addr) (m1 e1 : Nat) (K2 : Option Addr) (m2 e2 : Nat), s10 = .int .i64 q4 ∧ s12 = .int .i64 q4 ∧ Aside0 (HM q2 q3) ∧ Aside0 (ZeroOn (q1, q2, q3, q4)) ∧ Aside0 (q4 = 0 → q1 = r1) ∧ Aside0 (Below w.heap.size w wc) ∧ Aside0 (wc.heap[g4]? = some (.cells #[.int .i64 G, .int .i64 I, .int .i64 N] 23 (0, 0))) ∧ Aside0 (HeadAt wc g9 r1 bl sl) ∧ Aside0 (Row8 wc (.slice B1 16 d1) bl) ∧ Aside0 (Row8 wc (.slice B2 8 d2) sl) ∧ Aside0 (wc.heap[g11]? = some (.cells #[.int .i64 r1, .slice B1 16 d1, .slice B2 8 d2] 31 (0, 0))) ∧ Aside0 (HeadAt wc g15 q1 q2 q3) ∧ Aside0 (wc.heap[g16]? = some (.cells #[.int .i64 no1, .slice K1 m1 e1, .slice K2 m2 e2] 31 (0, 0))) ∧ Aside0 (RecOk wc (q1, q2, q3, q4) no1 K1 m1 e1 K2 m2 e2))
        case first =>
          by_cases hk : k = 0
          · have hkE : (k == 0) = true := beq_iff_eq.mpr hk
            clear hk
            obtain ⟨q1, q2, q3, q4, hq⟩ : ∃ q1 q2 q3 q4, useBP G I N r1 bl sl n b = (q1, q2, q3, q4) := ⟨_, _, _, _, rfl⟩
            have HMQM : Aside0 (HM q2 q3) := ⟨by have q := (useB_ok G I N r1 bl sl n b HMM.out).1; rw [hq] at q; exact q⟩
            have HNO : Aside0 (q4 = 0 → q1 = r1) := ⟨by have q := (useB_ok G I N r1 bl sl n b HMM.out).2; rw [hq] at q; exact q⟩
            have HZQ : Aside0 (ZeroOn (q1, q2, q3, q4)) := ⟨by have q := useB_zero G I N r1 bl sl n b; rw [hq] at q; exact q⟩
            have HMQ := Aside0.mk HMQM.out.maps
            have cUse : Aside0 (∀ w : World, Calls Try.prog 20 #[.agg #[.int .i64 G, .int .i64 I, .int .i64 N], headV r1 bl sl, .int .i64 n, .bool b] w fun e w' => e = .returned (.tuple #[headV q1 q2 q3, .int .i64 q4]) ∧ Below w.heap.size w w') := ⟨fun w => by have q := useB_any G I N r1 bl sl n b w HMM.out; rw [hq] at q; exact q⟩
            have cRUse : Aside0 (∀ (w : World) (A1 : Option Addr) (c1 : Nat) (A2 : Option Addr) (c2 : Nat), Row8 w (.slice A1 16 c1) bl → Row8 w (.slice A2 8 c2) sl → Calls Try.prog 21 #[.agg #[.int .i64 G, .int .i64 I, .int .i64 N], .agg #[.int .i64 r1, .slice A1 16 c1, .slice A2 8 c2], .int .i64 n, .bool b] w fun e w' => ∃ (no' : Int) (B1 : Option Addr) (n1 d1 : Nat) (B2 : Option Addr) (n2 d2 : Nat), e = .returned (.tuple #[.agg #[.int .i64 no', .slice B1 n1 d1, .slice B2 n2 d2], .int .i64 q4]) ∧ RecOk w' (q1, q2, q3, q4) no' B1 n1 d1 B2 n2 d2 ∧ Below w.heap.size w w') := ⟨fun w A1 c1 A2 c2 k1 k2 => by have q := ruseB_u G I N r1 bl sl A1 c1 A2 c2 n b w HMM.out k1 k2 HWN.out; rw [hq] at q; exact q⟩
            clear hq
            go_wp2_with (first
                | ((with_reducible refine gate_dst (N := 65) rfl ?_); go_loud (refine wl_head ?hw (.tmp 9) ?ho ?hx HX.out HMm.out ?_; (case hw => first | rfl | (go_simp; done)); (case ho => rfl); (case hx => rfl)))
                | (go_at_call 20; go_loud ((with_reducible refine (cUse.out _).mono ?_); rintro e w_ ⟨rfl, hb⟩; clear cHG_0 cHG_1 cHG_2 cHX_n cHY_0 cHY_1 cHY_2 cHA_0 cHA_1 cHA_2 cHP_n cHP2_0 cHP2_1 cHP2_2; replace HB := Aside0.mk (below_step HB.out hb); replace HG := Aside0.mk (blk_below HG.out hb); replace HX := Aside0.mk (HeadAt.below HX.out hb); replace HV1 := Aside0.mk (Row8.below HV1.out hb); replace HV2 := Aside0.mk (Row8.below HV2.out hb); replace HY := Aside0.mk (blk_below HY.out hb); replace HA := Aside0.mk (blk_below HA.out hb); replace HP := Aside0.mk (HeadAt.below HP.out hb); replace HP2 := Aside0.mk (blk_below HP2.out hb); clear hb; have cHG_0 := c3_0 HG.out; have cHG_1 := c3_1 HG.out; have cHG_2 := c3_2 HG.out; have cHX_n := cell_no HX.out; have cHY_0 := c3_0 HY.out; have cHY_1 := c3_1 HY.out; have cHY_2 := c3_2 HY.out; have cHA_0 := c3_0 HA.out; have cHA_1 := c3_1 HA.out; have cHA_2 := c3_2 HA.out; have cHP_n := cell_no HP.out; have cHP2_0 := c3_0 HP2.out; have cHP2_1 := c3_1 HP2.out; have cHP2_2 := c3_2 HP2.out))
                | ((refine gate_store (t := 28) (p := 15) rfl ?_); go_loud (refine store_all (P := Try.prog) (t := 28) (p := 15) (v := .tmp 71) ?hgd ?hN ?ho g15 (headC q1 q2 q3) ?hx ?hy _ _ HP.out (hi_head HMQ.out) (hold_head HMm.out HMQ.out) (head_one _ _ _) w.heap.size w HB.out GE_HP.out ?_; (case hgd => rfl); (case hN => rfl); (case ho => rfl); (case hx => rfl); (case hy => rfl); intro w_ hx_ ho_ hb_; clear cHG_0 cHG_1 cHG_2 cHX_n cHY_0 cHY_1 cHY_2 cHA_0 cHA_1 cHA_2 cHP_n cHP2_0 cHP2_1 cHP2_2; replace HG := Aside0.mk ((ho_ _ NE_HG_HP.out).trans HG.out); replace HX := Aside0.mk (HeadAt.other HX.out ho_ NE_HX_HP.out); replace HV1 := Aside0.mk (Row8.other HV1.out HP.out (by decide) ho_); replace HV2 := Aside0.mk (Row8.other HV2.out HP.out (by decide) ho_); replace HY := Aside0.mk ((ho_ _ NE_HY_HP.out).trans HY.out); replace HA := Aside0.mk ((ho_ _ NE_HA_HP.out).trans HA.out); replace HP2 := Aside0.mk ((ho_ _ (Ne.symm NE_HP_HP2.out)).trans HP2.out); clear HB; have HB := Aside0.mk hb_; clear hb_; clear HP; have HP : Aside0 (HeadAt w_ g15 q1 q2 q3) := ⟨hx_⟩; clear hx_ ho_; have cHG_0 := c3_0 HG.out; have cHG_1 := c3_1 HG.out; have cHG_2 := c3_2 HG.out; have cHX_n := cell_no HX.out; have cHY_0 := c3_0 HY.out; have cHY_1 := c3_1 HY.out; have cHY_2 := c3_2 HY.out; have cHA_0 := c3_0 HA.out; have cHA_1 := c3_1 HA.out; have cHA_2 := c3_2 HA.out; have cHP_n := cell_no HP.out; have cHP2_0 := c3_0 HP2.out; have cHP2_1 := c3_1 HP2.out; have cHP2_2 := c3_2 HP2.out))
                | (go_at_call 21; go_loud ((with_reducible refine (cRUse.out _ _ _ _ _ HV1.out HV2.out).mono ?_); rintro e w_ ⟨no1, K1, m1, e1, K2, m2, e2, rfl, hr1, hb⟩; clear cHG_0 cHG_1 cHG_2 cHX_n cHY_0 cHY_1 cHY_2 cHA_0 cHA_1 cHA_2 cHP_n cHP2_0 cHP2_1 cHP2_2; replace HB := Aside0.mk (below_step HB.out hb); replace HG := Aside0.mk (blk_below HG.out hb); replace HX := Aside0.mk (HeadAt.below HX.out hb); replace HV1 := Aside0.mk (Row8.below HV1.out hb); replace HV2 := Aside0.mk (Row8.below HV2.out hb); replace HY := Aside0.mk (blk_below HY.out hb); replace HA := Aside0.mk (blk_below HA.out hb); replace HP := Aside0.mk (HeadAt.below HP.out hb); replace HP2 := Aside0.mk (blk_below HP2.out hb); clear hb; have HRQ := Aside0.mk hr1; clear hr1; have cHG_0 := c3_0 HG.out; have cHG_1 := c3_1 HG.out; have cHG_2 := c3_2 HG.out; have cHX_n := cell_no HX.out; have cHY_0 := c3_0 HY.out; have cHY_1 := c3_1 HY.out; have cHY_2 := c3_2 HY.out; have cHA_0 := c3_0 HA.out; have cHA_1 := c3_1 HA.out; have cHA_2 := c3_2 HA.out; have cHP_n := cell_no HP.out; have cHP2_0 := c3_0 HP2.out; have cHP2_1 := c3_1 HP2.out; have cHP2_2 := c3_2 HP2.out))
                | ((refine gate_store (t := 31) (p := 16) rfl ?_); go_loud (refine store_all (P := Try.prog) (t := 31) (p := 16) (v := .tmp 81) ?hgd ?hN ?ho g16 ([.int .i64 no1, .slice K1 m1 e1, .slice K2 m2 e2]) ?hx ?hy _ _ HP2.out (info_rec) (rfl) (by intro v_ hv_; simp only [List.mem_cons, List.not_mem_nil, or_false] at hv_; rcases hv_ with rfl | rfl | rfl <;> rfl) w.heap.size w HB.out GE_HP2.out ?_; (case hgd => rfl); (case hN => rfl); (case ho => rfl); (case hx => rfl); (case hy => rfl); intro w_ hx_ ho_ hb_; clear cHG_0 cHG_1 cHG_2 cHX_n cHY_0 cHY_1 cHY_2 cHA_0 cHA_1 cHA_2 cHP_n cHP2_0 cHP2_1 cHP2_2; replace HG := Aside0.mk ((ho_ _ NE_HG_HP2.out).trans HG.out); replace HX := Aside0.mk (HeadAt.other HX.out ho_ NE_HX_HP2.out); replace HV1 := Aside0.mk (Row8.other HV1.out HP2.out (by decide) ho_); replace HV2 := Aside0.mk (Row8.other HV2.out HP2.out (by decide) ho_); replace HY := Aside0.mk ((ho_ _ NE_HY_HP2.out).trans HY.out); replace HA := Aside0.mk ((ho_ _ NE_HA_HP2.out).trans HA.out); replace HP := Aside0.mk (HeadAt.other HP.out ho_ NE_HP_HP2.out); replace HRQ := Aside0.mk (RecOk.other HRQ.out HP2.out (by decide) ho_); clear HB; have HB := Aside0.mk hb_; clear hb_; clear HP2; have HP2 : Aside0 (w_.heap[g16]? = some (.cells #[.int .i64 no1, .slice K1 m1 e1, .slice K2 m2 e2] 31 (0, 0))) := ⟨hx_⟩; clear hx_ ho_; have cHG_0 := c3_0 HG.out; have cHG_1 := c3_1 HG.out; have cHG_2 := c3_2 HG.out; have cHX_n := cell_no HX.out; have cHY_0 := c3_0 HY.out; have cHY_1 := c3_1 HY.out; have cHY_2 := c3_2 HY.out; have cHA_0 := c3_0 HA.out; have cHA_1 := c3_1 HA.out; have cHA_2 := c3_2 HA.out; have cHP_n := cell_no HP.out; have cHP2_0 := c3_0 HP2.out; have cHP2_1 := c3_1 HP2.out; have cHP2_2 := c3_2 HP2.out)))
            go_meet
            case rel => exact ⟨q1, q2, q3, q4, no1, K1, m1, e1, K2, m2, e2, rfl, rfl, HMQM, HZQ, HNO, HB, HG, HX, HV1, HV2, HY, HP, HP2, HRQ⟩
          · have hk0 : (k == 0) = false := beq_eq_false_iff_ne.mpr hk
            clear hk
            by_cases hk : k = 1
            · have hkE : (k == 1) = true := beq_iff_eq.mpr hk
              clear hk
              obtain ⟨q1, q2, q3, q4, hq⟩ : ∃ q1 q2 q3 q4, useBP G I N r1 bl sl n b = (q1, q2, q3, q4) := ⟨_, _, _, _, rfl⟩
              have HMQM : Aside0 (HM q2 q3) := ⟨by have q := (useB_ok G I N r1 bl sl n b HMM.out).1; rw [hq] at q; exact q⟩
              have HNO : Aside0 (q4 = 0 → q1 = r1) := ⟨by have q := (useB_ok G I N r1 bl sl n b HMM.out).2; rw [hq] at q; exact q⟩
              have HZQ : Aside0 (ZeroOn (q1, q2, q3, q4)) := ⟨by have q := useB_zero G I N r1 bl sl n b; rw [hq] at q; exact q⟩
              have HMQ := Aside0.mk HMQM.out.maps
              have cUse : Aside0 (∀ w : World, Calls Try.prog 20 #[.agg #[.int .i64 G, .int .i64 I, .int .i64 N], headV r1 bl sl, .int .i64 n, .bool b] w fun e w' => e = .returned (.tuple #[headV q1 q2 q3, .int .i64 q4]) ∧ Below w.heap.size w w') := ⟨fun w => by have q := useB_any G I N r1 bl sl n b w HMM.out; rw [hq] at q; exact q⟩
              have cRUse : Aside0 (∀ (w : World) (A1 : Option Addr) (c1 : Nat) (A2 : Option Addr) (c2 : Nat), Row8 w (.slice A1 16 c1) bl → Row8 w (.slice A2 8 c2) sl → Calls Try.prog 21 #[.agg #[.int .i64 G, .int .i64 I, .int .i64 N], .agg #[.int .i64 r1, .slice A1 16 c1, .slice A2 8 c2], .int .i64 n, .bool b] w fun e w' => ∃ (no' : Int) (B1 : Option Addr) (n1 d1 : Nat) (B2 : Option Addr) (n2 d2 : Nat), e = .returned (.tuple #[.agg #[.int .i64 no', .slice B1 n1 d1, .slice B2 n2 d2], .int .i64 q4]) ∧ RecOk w' (q1, q2, q3, q4) no' B1 n1 d1 B2 n2 d2 ∧ Below w.heap.size w w') := ⟨fun w A1 c1 A2 c2 k1 k2 => by have q := ruseB_u G I N r1 bl sl A1 c1 A2 c2 n b w HMM.out k1 k2 HWN.out; rw [hq] at q; exact q⟩
              clear hq
              go_wp2_with (first
                  | ((with_reducible refine gate_dst (N := 65) rfl ?_); go_loud (refine wl_head ?hw (.tmp 9) ?ho ?hx HX.out HMm.out ?_; (case hw => first | rfl | (go_simp; done)); (case ho => rfl); (case hx => rfl)))
                  | (go_at_call 20; go_loud ((with_reducible refine (cUse.out _).mono ?_); rintro e w_ ⟨rfl, hb⟩; clear cHG_0 cHG_1 cHG_2 cHX_n cHY_0 cHY_1 cHY_2 cHA_0 cHA_1 cHA_2 cHP_n cHP2_0 cHP2_1 cHP2_2; replace HB := Aside0.mk (below_step HB.out hb); replace HG := Aside0.mk (blk_below HG.out hb); replace HX := Aside0.mk (HeadAt.below HX.out hb); replace HV1 := Aside0.mk (Row8.below HV1.out hb); replace HV2 := Aside0.mk (Row8.below HV2.out hb); replace HY := Aside0.mk (blk_below HY.out hb); replace HA := Aside0.mk (blk_below HA.out hb); replace HP := Aside0.mk (HeadAt.below HP.out hb); replace HP2 := Aside0.mk (blk_below HP2.out hb); clear hb; have cHG_0 := c3_0 HG.out; have cHG_1 := c3_1 HG.out; have cHG_2 := c3_2 HG.out; have cHX_n := cell_no HX.out; have cHY_0 := c3_0 HY.out; have cHY_1 := c3_1 HY.out; have cHY_2 := c3_2 HY.out; have cHA_0 := c3_0 HA.out; have cHA_1 := c3_1 HA.out; have cHA_2 := c3_2 HA.out; have cHP_n := cell_no HP.out; have cHP2_0 := c3_0 HP2.out; have cHP2_1 := c3_1 HP2.out; have cHP2_2 := c3_2 HP2.out))
                  | ((refine gate_store (t := 28) (p := 15) rfl ?_); go_loud (refine store_all (P := Try.prog) (t := 28) (p := 15) (v := .tmp 71) ?hgd ?hN ?ho g15 (headC q1 q2 q3) ?hx ?hy _ _ HP.out (hi_head HMQ.out) (hold_head HMm.out HMQ.out) (head_one _ _ _) w.heap.size w HB.out GE_HP.out ?_; (case hgd => rfl); (case hN => rfl); (case ho => rfl); (case hx => rfl); (case hy => rfl); intro w_ hx_ ho_ hb_; clear cHG_0 cHG_1 cHG_2 cHX_n cHY_0 cHY_1 cHY_2 cHA_0 cHA_1 cHA_2 cHP_n cHP2_0 cHP2_1 cHP2_2; replace HG := Aside0.mk ((ho_ _ NE_HG_HP.out).trans HG.out); replace HX := Aside0.mk (HeadAt.other HX.out ho_ NE_HX_HP.out); replace HV1 := Aside0.mk (Row8.other HV1.out HP.out (by decide) ho_); replace HV2 := Aside0.mk (Row8.other HV2.out HP.out (by decide) ho_); replace HY := Aside0.mk ((ho_ _ NE_HY_HP.out).trans HY.out); replace HA := Aside0.mk ((ho_ _ NE_HA_HP.out).trans HA.out); replace HP2 := Aside0.mk ((ho_ _ (Ne.symm NE_HP_HP2.out)).trans HP2.out); clear HB; have HB := Aside0.mk hb_; clear hb_; clear HP; have HP : Aside0 (HeadAt w_ g15 q1 q2 q3) := ⟨hx_⟩; clear hx_ ho_; have cHG_0 := c3_0 HG.out; have cHG_1 := c3_1 HG.out; have cHG_2 := c3_2 HG.out; have cHX_n := cell_no HX.out; have cHY_0 := c3_0 HY.out; have cHY_1 := c3_1 HY.out; have cHY_2 := c3_2 HY.out; have cHA_0 := c3_0 HA.out; have cHA_1 := c3_1 HA.out; have cHA_2 := c3_2 HA.out; have cHP_n := cell_no HP.out; have cHP2_0 := c3_0 HP2.out; have cHP2_1 := c3_1 HP2.out; have cHP2_2 := c3_2 HP2.out))
                  | (go_at_call 21; go_loud ((with_reducible refine (cRUse.out _ _ _ _ _ HV1.out HV2.out).mono ?_); rintro e w_ ⟨no1, K1, m1, e1, K2, m2, e2, rfl, hr1, hb⟩; clear cHG_0 cHG_1 cHG_2 cHX_n cHY_0 cHY_1 cHY_2 cHA_0 cHA_1 cHA_2 cHP_n cHP2_0 cHP2_1 cHP2_2; replace HB := Aside0.mk (below_step HB.out hb); replace HG := Aside0.mk (blk_below HG.out hb); replace HX := Aside0.mk (HeadAt.below HX.out hb); replace HV1 := Aside0.mk (Row8.below HV1.out hb); replace HV2 := Aside0.mk (Row8.below HV2.out hb); replace HY := Aside0.mk (blk_below HY.out hb); replace HA := Aside0.mk (blk_below HA.out hb); replace HP := Aside0.mk (HeadAt.below HP.out hb); replace HP2 := Aside0.mk (blk_below HP2.out hb); clear hb; have HRQ := Aside0.mk hr1; clear hr1; have cHG_0 := c3_0 HG.out; have cHG_1 := c3_1 HG.out; have cHG_2 := c3_2 HG.out; have cHX_n := cell_no HX.out; have cHY_0 := c3_0 HY.out; have cHY_1 := c3_1 HY.out; have cHY_2 := c3_2 HY.out; have cHA_0 := c3_0 HA.out; have cHA_1 := c3_1 HA.out; have cHA_2 := c3_2 HA.out; have cHP_n := cell_no HP.out; have cHP2_0 := c3_0 HP2.out; have cHP2_1 := c3_1 HP2.out; have cHP2_2 := c3_2 HP2.out))
                  | ((refine gate_store (t := 31) (p := 16) rfl ?_); go_loud (refine store_all (P := Try.prog) (t := 31) (p := 16) (v := .tmp 81) ?hgd ?hN ?ho g16 ([.int .i64 no1, .slice K1 m1 e1, .slice K2 m2 e2]) ?hx ?hy _ _ HP2.out (info_rec) (rfl) (by intro v_ hv_; simp only [List.mem_cons, List.not_mem_nil, or_false] at hv_; rcases hv_ with rfl | rfl | rfl <;> rfl) w.heap.size w HB.out GE_HP2.out ?_; (case hgd => rfl); (case hN => rfl); (case ho => rfl); (case hx => rfl); (case hy => rfl); intro w_ hx_ ho_ hb_; clear cHG_0 cHG_1 cHG_2 cHX_n cHY_0 cHY_1 cHY_2 cHA_0 cHA_1 cHA_2 cHP_n cHP2_0 cHP2_1 cHP2_2; replace HG := Aside0.mk ((ho_ _ NE_HG_HP2.out).trans HG.out); replace HX := Aside0.mk (HeadAt.other HX.out ho_ NE_HX_HP2.out); replace HV1 := Aside0.mk (Row8.other HV1.out HP2.out (by decide) ho_); replace HV2 := Aside0.mk (Row8.other HV2.out HP2.out (by decide) ho_); replace HY := Aside0.mk ((ho_ _ NE_HY_HP2.out).trans HY.out); replace HA := Aside0.mk ((ho_ _ NE_HA_HP2.out).trans HA.out); replace HP := Aside0.mk (HeadAt.other HP.out ho_ NE_HP_HP2.out); replace HRQ := Aside0.mk (RecOk.other HRQ.out HP2.out (by decide) ho_); clear HB; have HB := Aside0.mk hb_; clear hb_; clear HP2; have HP2 : Aside0 (w_.heap[g16]? = some (.cells #[.int .i64 no1, .slice K1 m1 e1, .slice K2 m2 e2] 31 (0, 0))) := ⟨hx_⟩; clear hx_ ho_; have cHG_0 := c3_0 HG.out; have cHG_1 := c3_1 HG.out; have cHG_2 := c3_2 HG.out; have cHX_n := cell_no HX.out; have cHY_0 := c3_0 HY.out; have cHY_1 := c3_1 HY.out; have cHY_2 := c3_2 HY.out; have cHA_0 := c3_0 HA.out; have cHA_1 := c3_1 HA.out; have cHA_2 := c3_2 HA.out; have cHP_n := cell_no HP.out; have cHP2_0 := c3_0 HP2.out; have cHP2_1 := c3_1 HP2.out; have cHP2_2 := c3_2 HP2.out)))
              go_meet
              case rel => exact ⟨q1, q2, q3, q4, no1, K1, m1, e1, K2, m2, e2, rfl, rfl, HMQM, HZQ, HNO, HB, HG, HX, HV1, HV2, HY, HP, HP2, HRQ⟩
            · have hk1 : (k == 1) = false := beq_eq_false_iff_ne.mpr hk
              clear hk
              by_cases hk : k = 2
              · have hkE : (k == 2) = true := beq_iff_eq.mpr hk
                clear hk
                obtain ⟨q1, q2, q3, q4, hq⟩ : ∃ q1 q2 q3 q4, useSP G I N r1 bl sl n b = (q1, q2, q3, q4) := ⟨_, _, _, _, rfl⟩
                have HMQM : Aside0 (HM q2 q3) := ⟨by have q := (useS_ok G I N r1 bl sl n b HMM.out).1; rw [hq] at q; exact q⟩
                have HNO : Aside0 (q4 = 0 → q1 = r1) := ⟨by have q := (useS_ok G I N r1 bl sl n b HMM.out).2; rw [hq] at q; exact q⟩
                have HZQ : Aside0 (ZeroOn (q1, q2, q3, q4)) := ⟨by have q := useS_zero G I N r1 bl sl n b; rw [hq] at q; exact q⟩
                have HMQ := Aside0.mk HMQM.out.maps
                have cUse : Aside0 (∀ w : World, Calls Try.prog 22 #[.agg #[.int .i64 G, .int .i64 I, .int .i64 N], headV r1 bl sl, .int .i64 n, .bool b] w fun e w' => e = .returned (.tuple #[headV q1 q2 q3, .int .i64 q4]) ∧ Below w.heap.size w w') := ⟨fun w => by have q := useS_any G I N r1 bl sl n b w HMM.out; rw [hq] at q; exact q⟩
                have cRUse : Aside0 (∀ (w : World) (A1 : Option Addr) (c1 : Nat) (A2 : Option Addr) (c2 : Nat), Row8 w (.slice A1 16 c1) bl → Row8 w (.slice A2 8 c2) sl → Calls Try.prog 23 #[.agg #[.int .i64 G, .int .i64 I, .int .i64 N], .agg #[.int .i64 r1, .slice A1 16 c1, .slice A2 8 c2], .int .i64 n, .bool b] w fun e w' => ∃ (no' : Int) (B1 : Option Addr) (n1 d1 : Nat) (B2 : Option Addr) (n2 d2 : Nat), e = .returned (.tuple #[.agg #[.int .i64 no', .slice B1 n1 d1, .slice B2 n2 d2], .int .i64 q4]) ∧ RecOk w' (q1, q2, q3, q4) no' B1 n1 d1 B2 n2 d2 ∧ Below w.heap.size w w') := ⟨fun w A1 c1 A2 c2 k1 k2 => by have q := ruseS_u G I N r1 bl sl A1 c1 A2 c2 n b w HMM.out k1 k2 HWN.out; rw [hq] at q; exact q⟩
                clear hq
                go_wp2_with (first
                    | ((with_reducible refine gate_dst (N := 88) rfl ?_); go_loud (refine wl_head ?hw (.tmp 9) ?ho ?hx HX.out HMm.out ?_; (case hw => first | rfl | (go_simp; done)); (case ho => rfl); (case hx => rfl)))
                    | (go_at_call 22; go_loud ((with_reducible refine (cUse.out _).mono ?_); rintro e w_ ⟨rfl, hb⟩; clear cHG_0 cHG_1 cHG_2 cHX_n cHY_0 cHY_1 cHY_2 cHA_0 cHA_1 cHA_2 cHP_n cHP2_0 cHP2_1 cHP2_2; replace HB := Aside0.mk (below_step HB.out hb); replace HG := Aside0.mk (blk_below HG.out hb); replace HX := Aside0.mk (HeadAt.below HX.out hb); replace HV1 := Aside0.mk (Row8.below HV1.out hb); replace HV2 := Aside0.mk (Row8.below HV2.out hb); replace HY := Aside0.mk (blk_below HY.out hb); replace HA := Aside0.mk (blk_below HA.out hb); replace HP := Aside0.mk (HeadAt.below HP.out hb); replace HP2 := Aside0.mk (blk_below HP2.out hb); clear hb; have cHG_0 := c3_0 HG.out; have cHG_1 := c3_1 HG.out; have cHG_2 := c3_2 HG.out; have cHX_n := cell_no HX.out; have cHY_0 := c3_0 HY.out; have cHY_1 := c3_1 HY.out; have cHY_2 := c3_2 HY.out; have cHA_0 := c3_0 HA.out; have cHA_1 := c3_1 HA.out; have cHA_2 := c3_2 HA.out; have cHP_n := cell_no HP.out; have cHP2_0 := c3_0 HP2.out; have cHP2_1 := c3_1 HP2.out; have cHP2_2 := c3_2 HP2.out))
                    | ((refine gate_store (t := 28) (p := 15) rfl ?_); go_loud (refine store_all (P := Try.prog) (t := 28) (p := 15) (v := .tmp 94) ?hgd ?hN ?ho g15 (headC q1 q2 q3) ?hx ?hy _ _ HP.out (hi_head HMQ.out) (hold_head HMm.out HMQ.out) (head_one _ _ _) w.heap.size w HB.out GE_HP.out ?_; (case hgd => rfl); (case hN => rfl); (case ho => rfl); (case hx => rfl); (case hy => rfl); intro w_ hx_ ho_ hb_; clear cHG_0 cHG_1 cHG_2 cHX_n cHY_0 cHY_1 cHY_2 cHA_0 cHA_1 cHA_2 cHP_n cHP2_0 cHP2_1 cHP2_2; replace HG := Aside0.mk ((ho_ _ NE_HG_HP.out).trans HG.out); replace HX := Aside0.mk (HeadAt.other HX.out ho_ NE_HX_HP.out); replace HV1 := Aside0.mk (Row8.other HV1.out HP.out (by decide) ho_); replace HV2 := Aside0.mk (Row8.other HV2.out HP.out (by decide) ho_); replace HY := Aside0.mk ((ho_ _ NE_HY_HP.out).trans HY.out); replace HA := Aside0.mk ((ho_ _ NE_HA_HP.out).trans HA.out); replace HP2 := Aside0.mk ((ho_ _ (Ne.symm NE_HP_HP2.out)).trans HP2.out); clear HB; have HB := Aside0.mk hb_; clear hb_; clear HP; have HP : Aside0 (HeadAt w_ g15 q1 q2 q3) := ⟨hx_⟩; clear hx_ ho_; have cHG_0 := c3_0 HG.out; have cHG_1 := c3_1 HG.out; have cHG_2 := c3_2 HG.out; have cHX_n := cell_no HX.out; have cHY_0 := c3_0 HY.out; have cHY_1 := c3_1 HY.out; have cHY_2 := c3_2 HY.out; have cHA_0 := c3_0 HA.out; have cHA_1 := c3_1 HA.out; have cHA_2 := c3_2 HA.out; have cHP_n := cell_no HP.out; have cHP2_0 := c3_0 HP2.out; have cHP2_1 := c3_1 HP2.out; have cHP2_2 := c3_2 HP2.out))
                    | (go_at_call 23; go_loud ((with_reducible refine (cRUse.out _ _ _ _ _ HV1.out HV2.out).mono ?_); rintro e w_ ⟨no1, K1, m1, e1, K2, m2, e2, rfl, hr1, hb⟩; clear cHG_0 cHG_1 cHG_2 cHX_n cHY_0 cHY_1 cHY_2 cHA_0 cHA_1 cHA_2 cHP_n cHP2_0 cHP2_1 cHP2_2; replace HB := Aside0.mk (below_step HB.out hb); replace HG := Aside0.mk (blk_below HG.out hb); replace HX := Aside0.mk (HeadAt.below HX.out hb); replace HV1 := Aside0.mk (Row8.below HV1.out hb); replace HV2 := Aside0.mk (Row8.below HV2.out hb); replace HY := Aside0.mk (blk_below HY.out hb); replace HA := Aside0.mk (blk_below HA.out hb); replace HP := Aside0.mk (HeadAt.below HP.out hb); replace HP2 := Aside0.mk (blk_below HP2.out hb); clear hb; have HRQ := Aside0.mk hr1; clear hr1; have cHG_0 := c3_0 HG.out; have cHG_1 := c3_1 HG.out; have cHG_2 := c3_2 HG.out; have cHX_n := cell_no HX.out; have cHY_0 := c3_0 HY.out; have cHY_1 := c3_1 HY.out; have cHY_2 := c3_2 HY.out; have cHA_0 := c3_0 HA.out; have cHA_1 := c3_1 HA.out; have cHA_2 := c3_2 HA.out; have cHP_n := cell_no HP.out; have cHP2_0 := c3_0 HP2.out; have cHP2_1 := c3_1 HP2.out; have cHP2_2 := c3_2 HP2.out))
                    | ((refine gate_store (t := 31) (p := 16) rfl ?_); go_loud (refine store_all (P := Try.prog) (t := 31) (p := 16) (v := .tmp 104) ?hgd ?hN ?ho g16 ([.int .i64 no1, .slice K1 m1 e1, .slice K2 m2 e2]) ?hx ?hy _ _ HP2.out (info_rec) (rfl) (by intro v_ hv_; simp only [List.mem_cons, List.not_mem_nil, or_false] at hv_; rcases hv_ with rfl | rfl | rfl <;> rfl) w.heap.size w HB.out GE_HP2.out ?_; (case hgd => rfl); (case hN => rfl); (case ho => rfl); (case hx => rfl); (case hy => rfl); intro w_ hx_ ho_ hb_; clear cHG_0 cHG_1 cHG_2 cHX_n cHY_0 cHY_1 cHY_2 cHA_0 cHA_1 cHA_2 cHP_n cHP2_0 cHP2_1 cHP2_2; replace HG := Aside0.mk ((ho_ _ NE_HG_HP2.out).trans HG.out); replace HX := Aside0.mk (HeadAt.other HX.out ho_ NE_HX_HP2.out); replace HV1 := Aside0.mk (Row8.other HV1.out HP2.out (by decide) ho_); replace HV2 := Aside0.mk (Row8.other HV2.out HP2.out (by decide) ho_); replace HY := Aside0.mk ((ho_ _ NE_HY_HP2.out).trans HY.out); replace HA := Aside0.mk ((ho_ _ NE_HA_HP2.out).trans HA.out); replace HP := Aside0.mk (HeadAt.other HP.out ho_ NE_HP_HP2.out); replace HRQ := Aside0.mk (RecOk.other HRQ.out HP2.out (by decide) ho_); clear HB; have HB := Aside0.mk hb_; clear hb_; clear HP2; have HP2 : Aside0 (w_.heap[g16]? = some (.cells #[.int .i64 no1, .slice K1 m1 e1, .slice K2 m2 e2] 31 (0, 0))) := ⟨hx_⟩; clear hx_ ho_; have cHG_0 := c3_0 HG.out; have cHG_1 := c3_1 HG.out; have cHG_2 := c3_2 HG.out; have cHX_n := cell_no HX.out; have cHY_0 := c3_0 HY.out; have cHY_1 := c3_1 HY.out; have cHY_2 := c3_2 HY.out; have cHA_0 := c3_0 HA.out; have cHA_1 := c3_1 HA.out; have cHA_2 := c3_2 HA.out; have cHP_n := cell_no HP.out; have cHP2_0 := c3_0 HP2.out; have cHP2_1 := c3_1 HP2.out; have cHP2_2 := c3_2 HP2.out)))
                go_meet
                case rel => exact ⟨q1, q2, q3, q4, no1, K1, m1, e1, K2, m2, e2, rfl, rfl, HMQM, HZQ, HNO, HB, HG, HX, HV1, HV2, HY, HP, HP2, HRQ⟩
              · have hk2 : (k == 2) = false := beq_eq_false_iff_ne.mpr hk
                clear hk
                by_cases hk : k = 3
                · have hkE : (k == 3) = true := beq_iff_eq.mpr hk
                  clear hk
                  obtain ⟨q1, q2, q3, q4, hq⟩ : ∃ q1 q2 q3 q4, useSP G I N r1 bl sl n b = (q1, q2, q3, q4) := ⟨_, _, _, _, rfl⟩
                  have HMQM : Aside0 (HM q2 q3) := ⟨by have q := (useS_ok G I N r1 bl sl n b HMM.out).1; rw [hq] at q; exact q⟩
                  have HNO : Aside0 (q4 = 0 → q1 = r1) := ⟨by have q := (useS_ok G I N r1 bl sl n b HMM.out).2; rw [hq] at q; exact q⟩
                  have HZQ : Aside0 (ZeroOn (q1, q2, q3, q4)) := ⟨by have q := useS_zero G I N r1 bl sl n b; rw [hq] at q; exact q⟩
                  have HMQ := Aside0.mk HMQM.out.maps
                  have cUse : Aside0 (∀ w : World, Calls Try.prog 22 #[.agg #[.int .i64 G, .int .i64 I, .int .i64 N], headV r1 bl sl, .int .i64 n, .bool b] w fun e w' => e = .returned (.tuple #[headV q1 q2 q3, .int .i64 q4]) ∧ Below w.heap.size w w') := ⟨fun w => by have q := useS_any G I N r1 bl sl n b w HMM.out; rw [hq] at q; exact q⟩
                  have cRUse : Aside0 (∀ (w : World) (A1 : Option Addr) (c1 : Nat) (A2 : Option Addr) (c2 : Nat), Row8 w (.slice A1 16 c1) bl → Row8 w (.slice A2 8 c2) sl → Calls Try.prog 23 #[.agg #[.int .i64 G, .int .i64 I, .int .i64 N], .agg #[.int .i64 r1, .slice A1 16 c1, .slice A2 8 c2], .int .i64 n, .bool b] w fun e w' => ∃ (no' : Int) (B1 : Option Addr) (n1 d1 : Nat) (B2 : Option Addr) (n2 d2 : Nat), e = .returned (.tuple #[.agg #[.int .i64 no', .slice B1 n1 d1, .slice B2 n2 d2], .int .i64 q4]) ∧ RecOk w' (q1, q2, q3, q4) no' B1 n1 d1 B2 n2 d2 ∧ Below w.heap.size w w') := ⟨fun w A1 c1 A2 c2 k1 k2 => by have q := ruseS_u G I N r1 bl sl A1 c1 A2 c2 n b w HMM.out k1 k2 HWN.out; rw [hq] at q; exact q⟩
                  clear hq
                  go_wp2_with (first
                      | ((with_reducible refine gate_dst (N := 88) rfl ?_); go_loud (refine wl_head ?hw (.tmp 9) ?ho ?hx HX.out HMm.out ?_; (case hw => first | rfl | (go_simp; done)); (case ho => rfl); (case hx => rfl)))
                      | (go_at_call 22; go_loud ((with_reducible refine (cUse.out _).mono ?_); rintro e w_ ⟨rfl, hb⟩; clear cHG_0 cHG_1 cHG_2 cHX_n cHY_0 cHY_1 cHY_2 cHA_0 cHA_1 cHA_2 cHP_n cHP2_0 cHP2_1 cHP2_2; replace HB := Aside0.mk (below_step HB.out hb); replace HG := Aside0.mk (blk_below HG.out hb); replace HX := Aside0.mk (HeadAt.below HX.out hb); replace HV1 := Aside0.mk (Row8.below HV1.out hb); replace HV2 := Aside0.mk (Row8.below HV2.out hb); replace HY := Aside0.mk (blk_below HY.out hb); replace HA := Aside0.mk (blk_below HA.out hb); replace HP := Aside0.mk (HeadAt.below HP.out hb); replace HP2 := Aside0.mk (blk_below HP2.out hb); clear hb; have cHG_0 := c3_0 HG.out; have cHG_1 := c3_1 HG.out; have cHG_2 := c3_2 HG.out; have cHX_n := cell_no HX.out; have cHY_0 := c3_0 HY.out; have cHY_1 := c3_1 HY.out; have cHY_2 := c3_2 HY.out; have cHA_0 := c3_0 HA.out; have cHA_1 := c3_1 HA.out; have cHA_2 := c3_2 HA.out; have cHP_n := cell_no HP.out; have cHP2_0 := c3_0 HP2.out; have cHP2_1 := c3_1 HP2.out; have cHP2_2 := c3_2 HP2.out))
                      | ((refine gate_store (t := 28) (p := 15) rfl ?_); go_loud (refine store_all (P := Try.prog) (t := 28) (p := 15) (v := .tmp 94) ?hgd ?hN ?ho g15 (headC q1 q2 q3) ?hx ?hy _ _ HP.out (hi_head HMQ.out) (hold_head HMm.out HMQ.out) (head_one _ _ _) w.heap.size w HB.out GE_HP.out ?_; (case hgd => rfl); (case hN => rfl); (case ho => rfl); (case hx => rfl); (case hy => rfl); intro w_ hx_ ho_ hb_; clear cHG_0 cHG_1 cHG_2 cHX_n cHY_0 cHY_1 cHY_2 cHA_0 cHA_1 cHA_2 cHP_n cHP2_0 cHP2_1 cHP2_2; replace HG := Aside0.mk ((ho_ _ NE_HG_HP.out).trans HG.out); replace HX := Aside0.mk (HeadAt.other HX.out ho_ NE_HX_HP.out); replace HV1 := Aside0.mk (Row8.other HV1.out HP.out (by decide) ho_); replace HV2 := Aside0.mk (Row8.other HV2.out HP.out (by decide) ho_); replace HY := Aside0.mk ((ho_ _ NE_HY_HP.out).trans HY.out); replace HA := Aside0.mk ((ho_ _ NE_HA_HP.out).trans HA.out); replace HP2 := Aside0.mk ((ho_ _ (Ne.symm NE_HP_HP2.out)).trans HP2.out); clear HB; have HB := Aside0.mk hb_; clear hb_; clear HP; have HP : Aside0 (HeadAt w_ g15 q1 q2 q3) := ⟨hx_⟩; clear hx_ ho_; have cHG_0 := c3_0 HG.out; have cHG_1 := c3_1 HG.out; have cHG_2 := c3_2 HG.out; have cHX_n := cell_no HX.out; have cHY_0 := c3_0 HY.out; have cHY_1 := c3_1 HY.out; have cHY_2 := c3_2 HY.out; have cHA_0 := c3_0 HA.out; have cHA_1 := c3_1 HA.out; have cHA_2 := c3_2 HA.out; have cHP_n := cell_no HP.out; have cHP2_0 := c3_0 HP2.out; have cHP2_1 := c3_1 HP2.out; have cHP2_2 := c3_2 HP2.out))
                      | (go_at_call 23; go_loud ((with_reducible refine (cRUse.out _ _ _ _ _ HV1.out HV2.out).mono ?_); rintro e w_ ⟨no1, K1, m1, e1, K2, m2, e2, rfl, hr1, hb⟩; clear cHG_0 cHG_1 cHG_2 cHX_n cHY_0 cHY_1 cHY_2 cHA_0 cHA_1 cHA_2 cHP_n cHP2_0 cHP2_1 cHP2_2; replace HB := Aside0.mk (below_step HB.out hb); replace HG := Aside0.mk (blk_below HG.out hb); replace HX := Aside0.mk (HeadAt.below HX.out hb); replace HV1 := Aside0.mk (Row8.below HV1.out hb); replace HV2 := Aside0.mk (Row8.below HV2.out hb); replace HY := Aside0.mk (blk_below HY.out hb); replace HA := Aside0.mk (blk_below HA.out hb); replace HP := Aside0.mk (HeadAt.below HP.out hb); replace HP2 := Aside0.mk (blk_below HP2.out hb); clear hb; have HRQ := Aside0.mk hr1; clear hr1; have cHG_0 := c3_0 HG.out; have cHG_1 := c3_1 HG.out; have cHG_2 := c3_2 HG.out; have cHX_n := cell_no HX.out; have cHY_0 := c3_0 HY.out; have cHY_1 := c3_1 HY.out; have cHY_2 := c3_2 HY.out; have cHA_0 := c3_0 HA.out; have cHA_1 := c3_1 HA.out; have cHA_2 := c3_2 HA.out; have cHP_n := cell_no HP.out; have cHP2_0 := c3_0 HP2.out; have cHP2_1 := c3_1 HP2.out; have cHP2_2 := c3_2 HP2.out))
                      | ((refine gate_store (t := 31) (p := 16) rfl ?_); go_loud (refine store_all (P := Try.prog) (t := 31) (p := 16) (v := .tmp 104) ?hgd ?hN ?ho g16 ([.int .i64 no1, .slice K1 m1 e1, .slice K2 m2 e2]) ?hx ?hy _ _ HP2.out (info_rec) (rfl) (by intro v_ hv_; simp only [List.mem_cons, List.not_mem_nil, or_false] at hv_; rcases hv_ with rfl | rfl | rfl <;> rfl) w.heap.size w HB.out GE_HP2.out ?_; (case hgd => rfl); (case hN => rfl); (case ho => rfl); (case hx => rfl); (case hy => rfl); intro w_ hx_ ho_ hb_; clear cHG_0 cHG_1 cHG_2 cHX_n cHY_0 cHY_1 cHY_2 cHA_0 cHA_1 cHA_2 cHP_n cHP2_0 cHP2_1 cHP2_2; replace HG := Aside0.mk ((ho_ _ NE_HG_HP2.out).trans HG.out); replace HX := Aside0.mk (HeadAt.other HX.out ho_ NE_HX_HP2.out); replace HV1 := Aside0.mk (Row8.other HV1.out HP2.out (by decide) ho_); replace HV2 := Aside0.mk (Row8.other HV2.out HP2.out (by decide) ho_); replace HY := Aside0.mk ((ho_ _ NE_HY_HP2.out).trans HY.out); replace HA := Aside0.mk ((ho_ _ NE_HA_HP2.out).trans HA.out); replace HP := Aside0.mk (HeadAt.other HP.out ho_ NE_HP_HP2.out); replace HRQ := Aside0.mk (RecOk.other HRQ.out HP2.out (by decide) ho_); clear HB; have HB := Aside0.mk hb_; clear hb_; clear HP2; have HP2 : Aside0 (w_.heap[g16]? = some (.cells #[.int .i64 no1, .slice K1 m1 e1, .slice K2 m2 e2] 31 (0, 0))) := ⟨hx_⟩; clear hx_ ho_; have cHG_0 := c3_0 HG.out; have cHG_1 := c3_1 HG.out; have cHG_2 := c3_2 HG.out; have cHX_n := cell_no HX.out; have cHY_0 := c3_0 HY.out; have cHY_1 := c3_1 HY.out; have cHY_2 := c3_2 HY.out; have cHA_0 := c3_0 HA.out; have cHA_1 := c3_1 HA.out; have cHA_2 := c3_2 HA.out; have cHP_n := cell_no HP.out; have cHP2_0 := c3_0 HP2.out; have cHP2_1 := c3_1 HP2.out; have cHP2_2 := c3_2 HP2.out)))
                  go_meet
                  case rel => exact ⟨q1, q2, q3, q4, no1, K1, m1, e1, K2, m2, e2, rfl, rfl, HMQM, HZQ, HNO, HB, HG, HX, HV1, HV2, HY, HP, HP2, HRQ⟩
                · have hk3 : (k == 3) = false := beq_eq_false_iff_ne.mpr hk
                  clear hk
                  go_wp2
                  go_meet
                  case rel => exact ⟨r1, bl, sl, 0, r1, B1, 16, d1, B2, 8, d2, rfl, rfl, HMM, ⟨fun h => (h rfl).elim⟩, ⟨fun _ => rfl⟩, HB, HG, HX, HV1, HV2, HY, HP, HP2, ⟨fun _ => ⟨rfl, rfl, rfl, HMM.out, HV1.out, HV2.out⟩⟩⟩
        case rest =>
          clear HB HG HX HV1 HV2 HY HA HP HP2
          obtain ⟨q1, q2, q3, q4, no1, K1, m1, e1, K2, m2, e2, rfl, rfl, HMQM, HZQ, HNO, HB, HG, HX, HV1, HV2, HY, HP, HP2, HRQ⟩ := hcut
          have HMQ := Aside0.mk HMQM.out.maps
          have cHG_0 := c3_0 HG.out
          have cHG_1 := c3_1 HG.out
          have cHG_2 := c3_2 HG.out
          have cHX_n := cell_no HX.out
          have cHY_0 := c3_0 HY.out
          have cHY_1 := c3_1 HY.out
          have cHY_2 := c3_2 HY.out
          have cHP_n := cell_no HP.out
          have cHP2_0 := c3_0 HP2.out
          have cHP2_1 := c3_1 HP2.out
          have cHP2_2 := c3_2 HP2.out
          go_upto_if 113 with (first
              | ((with_reducible refine gate_dst (N := 106) rfl ?_); go_loud (refine wl_head ?hw (.tmp 15) ?ho ?hx HP.out HMQ.out ?_; (case hw => first | rfl | (go_simp; done)); (case ho => rfl); (case hx => rfl)))
              | (go_at_call 15; go_loud ((with_reducible refine (same_u (q1, q2, q3, q4) no1 K1 m1 e1 K2 m2 e2 _ HZQ.out HRQ.out).mono ?_); rintro e w_ ⟨rfl, hb⟩; clear cHG_0 cHG_1 cHG_2 cHX_n cHY_0 cHY_1 cHY_2 cHP_n cHP2_0 cHP2_1 cHP2_2; replace HB := Aside0.mk (below_step HB.out hb); replace HG := Aside0.mk (blk_below HG.out hb); replace HX := Aside0.mk (HeadAt.below HX.out hb); replace HV1 := Aside0.mk (Row8.below HV1.out hb); replace HV2 := Aside0.mk (Row8.below HV2.out hb); replace HY := Aside0.mk (blk_below HY.out hb); replace HP := Aside0.mk (HeadAt.below HP.out hb); replace HP2 := Aside0.mk (blk_below HP2.out hb); replace HRQ := Aside0.mk (RecOk.below HRQ.out hb); clear hb; have cHG_0 := c3_0 HG.out; have cHG_1 := c3_1 HG.out; have cHG_2 := c3_2 HG.out; have cHX_n := cell_no HX.out; have cHY_0 := c3_0 HY.out; have cHY_1 := c3_1 HY.out; have cHY_2 := c3_2 HY.out; have cHP_n := cell_no HP.out; have cHP2_0 := c3_0 HP2.out; have cHP2_1 := c3_1 HP2.out; have cHP2_2 := c3_2 HP2.out)))
          go_cut [] (fun wc => ∃ (bl sl : List Int) (B1 : Option Addr) (d1 : Nat) (B2 : Option Addr) (d2 : Nat), Aside0 (HM bl sl) ∧ Aside0 (Below w.heap.size w wc) ∧ Aside0 (wc.heap[g4]? = some (.cells #[.int .i64 G, .int .i64 I, .int .i64 N] 23 (0, 0))) ∧ Aside0 (HeadAt wc g9 r1 bl sl) ∧ Aside0 (Row8 wc (.slice B1 16 d1) bl) ∧ Aside0 (Row8 wc (.slice B2 8 d2) sl) ∧ Aside0 (wc.heap[g11]? = some (.cells #[.int .i64 r1, .slice B1 16 d1, .slice B2 8 d2] 31 (0, 0))))
          case first =>
            by_cases hq4 : q4 = 0
            · subst hq4
              have hn := (HNO.out rfl).symm
              subst hn
              obtain ⟨hn1, hn2, hn3, _, hw1, hw2⟩ := HRQ.out rfl
              have hn1' : r1 = no1 := hn1.symm
              subst hn1'
              subst hn2
              subst hn3
              have HW1 := Aside0.mk hw1
              have HW2 := Aside0.mk hw2
              clear hw1 hw2 HRQ hn1
              go_wp2_with (first
                  | ((with_reducible refine gate_dst (N := 114) rfl ?_); go_loud (refine wl_head ?hw (.tmp 15) ?ho ?hx HP.out HMQ.out ?_; (case hw => first | rfl | (go_simp; done)); (case ho => rfl); (case hx => rfl)))
                  | ((refine gate_store (t := 28) (p := 9) rfl ?_); go_loud (refine store_all (P := Try.prog) (t := 28) (p := 9) (v := .tmp 114) ?hgd ?hN ?ho g9 (headC r1 q2 q3) ?hx ?hy _ _ HX.out (hi_head HMQ.out) (hold_head HMm.out HMQ.out) (head_one _ _ _) w.heap.size w HB.out GE_HX.out ?_; (case hgd => rfl); (case hN => rfl); (case ho => rfl); (case hx => rfl); (case hy => rfl); intro w_ hx_ ho_ hb_; clear cHG_0 cHG_1 cHG_2 cHX_n cHY_0 cHY_1 cHY_2 cHP_n cHP2_0 cHP2_1 cHP2_2; replace HG := Aside0.mk ((ho_ _ NE_HG_HX.out).trans HG.out); replace HV1 := Aside0.mk (Row8.other HV1.out HX.out (by decide) ho_); replace HV2 := Aside0.mk (Row8.other HV2.out HX.out (by decide) ho_); replace HY := Aside0.mk ((ho_ _ (Ne.symm NE_HX_HY.out)).trans HY.out); replace HP := Aside0.mk (HeadAt.other HP.out ho_ (Ne.symm NE_HX_HP.out)); replace HP2 := Aside0.mk ((ho_ _ (Ne.symm NE_HX_HP2.out)).trans HP2.out); replace HW1 := Aside0.mk (Row8.other HW1.out HX.out (by decide) ho_); replace HW2 := Aside0.mk (Row8.other HW2.out HX.out (by decide) ho_); clear HB; have HB := Aside0.mk hb_; clear hb_; clear HX; have HX : Aside0 (HeadAt w_ g9 r1 q2 q3) := ⟨hx_⟩; clear hx_ ho_; have cHG_0 := c3_0 HG.out; have cHG_1 := c3_1 HG.out; have cHG_2 := c3_2 HG.out; have cHX_n := cell_no HX.out; have cHY_0 := c3_0 HY.out; have cHY_1 := c3_1 HY.out; have cHY_2 := c3_2 HY.out; have cHP_n := cell_no HP.out; have cHP2_0 := c3_0 HP2.out; have cHP2_1 := c3_1 HP2.out; have cHP2_2 := c3_2 HP2.out))
                  | ((refine gate_store (t := 31) (p := 11) rfl ?_); go_loud (refine store_all (P := Try.prog) (t := 31) (p := 11) (v := .tmp 115) ?hgd ?hN ?ho g11 ([.int .i64 r1, .slice K1 16 e1, .slice K2 8 e2]) ?hx ?hy _ _ HY.out (info_rec) (rfl) (by intro v_ hv_; simp only [List.mem_cons, List.not_mem_nil, or_false] at hv_; rcases hv_ with rfl | rfl | rfl <;> rfl) w.heap.size w HB.out GE_HY.out ?_; (case hgd => rfl); (case hN => rfl); (case ho => rfl); (case hx => rfl); (case hy => rfl); intro w_ hx_ ho_ hb_; clear cHG_0 cHG_1 cHG_2 cHX_n cHY_0 cHY_1 cHY_2 cHP_n cHP2_0 cHP2_1 cHP2_2; replace HG := Aside0.mk ((ho_ _ NE_HG_HY.out).trans HG.out); replace HX := Aside0.mk (HeadAt.other HX.out ho_ NE_HX_HY.out); replace HV1 := Aside0.mk (Row8.other HV1.out HY.out (by decide) ho_); replace HV2 := Aside0.mk (Row8.other HV2.out HY.out (by decide) ho_); replace HP := Aside0.mk (HeadAt.other HP.out ho_ (Ne.symm NE_HY_HP.out)); replace HP2 := Aside0.mk ((ho_ _ (Ne.symm NE_HY_HP2.out)).trans HP2.out); replace HW1 := Aside0.mk (Row8.other HW1.out HY.out (by decide) ho_); replace HW2 := Aside0.mk (Row8.other HW2.out HY.out (by decide) ho_); clear HB; have HB := Aside0.mk hb_; clear hb_; clear HY; have HY : Aside0 (w_.heap[g11]? = some (.cells #[.int .i64 r1, .slice K1 16 e1, .slice K2 8 e2] 31 (0, 0))) := ⟨hx_⟩; clear hx_ ho_; have cHG_0 := c3_0 HG.out; have cHG_1 := c3_1 HG.out; have cHG_2 := c3_2 HG.out; have cHX_n := cell_no HX.out; have cHY_0 := c3_0 HY.out; have cHY_1 := c3_1 HY.out; have cHY_2 := c3_2 HY.out; have cHP_n := cell_no HP.out; have cHP2_0 := c3_0 HP2.out; have cHP2_1 := c3_1 HP2.out; have cHP2_2 := c3_2 HP2.out)))
              go_meet
              case rel => exact ⟨q2, q3, K1, e1, K2, e2, HMQM, HB, HG, HX, HW1, HW2, HY⟩
            · have hq5 : (q4 == 0) = false := beq_eq_false_iff_ne.mpr hq4
              clear hq4
              go_wp2
              go_meet
              case rel => exact ⟨bl, sl, B1, d1, B2, d2, HMM, HB, HG, HX, HV1, HV2, HY⟩
          case rest =>
            clear HB HG HX HV1 HV2 HY HMM HMm
            obtain ⟨bl, sl, B1, d1, B2, d2, HMM, HB, HG, HX, HV1, HV2, HY⟩ := hcut
            have HMm := Aside0.mk HMM.out.maps
            have cHG_0 := c3_0 HG.out
            have cHG_1 := c3_1 HG.out
            have cHG_2 := c3_2 HG.out
            have cHX_n := cell_no HX.out
            have cHY_0 := c3_0 HY.out
            have cHY_1 := c3_1 HY.out
            have cHY_2 := c3_2 HY.out
            go_wp2_with (first
                | ((with_reducible refine gate_dst (N := 118) rfl ?_); go_loud (refine wl_head ?hw (.tmp 9) ?ho ?hx HX.out HMm.out ?_; (case hw => first | rfl | (go_simp; done)); (case ho => rfl); (case hx => rfl)))
                | (go_at_call 24; go_loud ((with_reducible refine (free_any G I N r1 bl sl _ HMM.out).mono ?_); rintro e w_ ⟨rfl, hb⟩; clear cHG_0 cHG_1 cHG_2 cHX_n cHY_0 cHY_1 cHY_2; replace HB := Aside0.mk (below_step HB.out hb); replace HG := Aside0.mk (blk_below HG.out hb); replace HX := Aside0.mk (HeadAt.below HX.out hb); replace HV1 := Aside0.mk (Row8.below HV1.out hb); replace HV2 := Aside0.mk (Row8.below HV2.out hb); replace HY := Aside0.mk (blk_below HY.out hb); clear hb; have cHG_0 := c3_0 HG.out; have cHG_1 := c3_1 HG.out; have cHG_2 := c3_2 HG.out; have cHX_n := cell_no HX.out; have cHY_0 := c3_0 HY.out; have cHY_1 := c3_1 HY.out; have cHY_2 := c3_2 HY.out))
                | (go_at_call 25; go_loud ((with_reducible refine (refFree_n G I N r1 HMM.out HV1.out HV2.out).mono ?_); rintro e w_ ⟨rfl, hb⟩; clear cHG_0 cHG_1 cHG_2 cHX_n cHY_0 cHY_1 cHY_2; replace HB := Aside0.mk (below_step HB.out hb); replace HG := Aside0.mk (blk_below HG.out hb); replace HX := Aside0.mk (HeadAt.below HX.out hb); replace HV1 := Aside0.mk (Row8.below HV1.out hb); replace HV2 := Aside0.mk (Row8.below HV2.out hb); replace HY := Aside0.mk (blk_below HY.out hb); clear hb; have cHG_0 := c3_0 HG.out; have cHG_1 := c3_1 HG.out; have cHG_2 := c3_2 HG.out; have cHX_n := cell_no HX.out; have cHY_0 := c3_0 HY.out; have cHY_1 := c3_1 HY.out; have cHY_2 := c3_2 HY.out)))
            clear cHG_0 cHG_1 cHG_2 cHX_n cHY_0 cHY_1 cHY_2
            replace HB := Aside0.mk (below_drew HB.out)
            replace HG := Aside0.mk (blk_drew HG.out)
            replace HX := Aside0.mk (HeadAt.drew HX.out)
            replace HV1 := Aside0.mk (Row8.drew HV1.out)
            replace HV2 := Aside0.mk (Row8.drew HV2.out)
            replace HY := Aside0.mk (blk_drew HY.out)
            refine q_start (n := 30) (S := fun (_ : Unit) w_ => Below w.heap.size w w_ ∧ w_.heap[g4]? = some (.cells #[.int .i64 G, .int .i64 I, .int .i64 N] 23 (0, 0)) ∧ HeadAt w_ g9 r1 bl sl ∧ Row8 w_ (.slice B1 16 d1) bl ∧ Row8 w_ (.slice B2 8 d2) sl ∧ w_.heap[g11]? = some (.cells #[.int .i64 r1, .slice B1 16 d1, .slice B2 8 d2] 31 (0, 0))) (ds := []) () #[ff, ff, ff, ff, ff, ff, ff, ff, ff, ff, ff, ff, ff, ff, ff, ff, ff, ff, ff, ff, ff, ff, ff, ff, ff, ff, ff, ff, ff, ff] (by kernel_rfl) rfl rfl ⟨HB.out, HG.out, HX.out, HV1.out, HV2.out, HY.out⟩ ?_
            clear HB HG HX HV1 HV2 HY
            refine q_tab law06_Plays.tab31 law06_Plays.bits31 (fun HT_ HW_ => ?_)
            refine q_take (i := 0) (N := some 128) (v := ?_) (a' := ?_) #[tt, ff, ff, ff, ff, ff, ff, ff, ff, ff, ff, ff, ff, ff, ff, ff, ff, ff, ff, ff, ff, ff, ff, ff, ff, ff, ff, ff, ff, ff] rfl rfl (take_ofW HT_.out HW_.out (by kernel_rfl)) (by decide) (quiet_val (by rfl) ?_) ?_ ?_
            rotate_left
            · intro _ w_ _
              go_simp
              with_reducible rfl
            rotate_left
            · simp only [Act.put, List.setIfInBounds_toArray, List.set_cons_zero, List.set_cons_succ, i64_w, i32_w, List.getElem_toArray, List.getElem_cons_succ, List.getElem_cons_zero]
              rfl
            refine q_take (i := 1) (N := some 129) (v := ?_) (a' := ?_) #[tt, tt, ff, ff, ff, ff, ff, ff, ff, ff, ff, ff, ff, ff, ff, ff, ff, ff, ff, ff, ff, ff, ff, ff, ff, ff, ff, ff, ff, ff] rfl rfl (take_ofW HT_.out HW_.out (by kernel_rfl)) (by decide) (quiet_val (by rfl) ?_) ?_ ?_
            rotate_left
            · intro _ w_ _
              go_simp
              with_reducible rfl
            rotate_left
            · simp only [Act.put, List.setIfInBounds_toArray, List.set_cons_zero, List.set_cons_succ, i64_w, i32_w, List.getElem_toArray, List.getElem_cons_succ, List.getElem_cons_zero]
              rfl
            refine q_take (i := 2) (N := some 130) (v := .bool false) (a' := ?_) #[tt, tt, tt, ff, ff, ff, ff, ff, ff, ff, ff, ff, ff, ff, ff, ff, ff, ff, ff, ff, ff, ff, ff, ff, ff, ff, ff, ff, ff, ff] rfl rfl (take_ofW HT_.out HW_.out (by kernel_rfl)) (by decide) (quiet_val (by rfl) ?_) ?_ ?_
            · rintro _ w_ ⟨hHB, hHG, hHX, hHV1, hHV2, hHY⟩
              skip
              go_simp
              try rfl
            rotate_left
            · simp only [Act.put, List.setIfInBounds_toArray, List.set_cons_zero, List.set_cons_succ, i64_w, i32_w, List.getElem_toArray, List.getElem_cons_succ, List.getElem_cons_zero]
              rfl
            refine q_take (i := 3) (N := some 131) (v := ?_) (a' := ?_) #[tt, tt, tt, tt, ff, ff, ff, ff, ff, ff, ff, ff, ff, ff, ff, ff, ff, ff, ff, ff, ff, ff, ff, ff, ff, ff, ff, ff, ff, ff] rfl rfl (take_ofW HT_.out HW_.out (by kernel_rfl)) (by decide) (quiet_val (by rfl) ?_) ?_ ?_
            rotate_left
            · intro _ w_ _
              go_simp
              with_reducible rfl
            rotate_left
            · simp only [Act.put, List.setIfInBounds_toArray, List.set_cons_zero, List.set_cons_succ, i64_w, i32_w, List.getElem_toArray, List.getElem_cons_succ, List.getElem_cons_zero]
              rfl
            refine q_take (i := 4) (N := some 132) (v := ?_) (a' := ?_) #[tt, tt, tt, tt, tt, ff, ff, ff, ff, ff, ff, ff, ff, ff, ff, ff, ff, ff, ff, ff, ff, ff, ff, ff, ff, ff, ff, ff, ff, ff] rfl rfl (take_ofW HT_.out HW_.out (by kernel_rfl)) (by decide) (quiet_val (by rfl) ?_) ?_ ?_
            rotate_left
            · intro _ w_ _
              go_simp
              with_reducible rfl
            rotate_left
            · simp only [Act.put, List.setIfInBounds_toArray, List.set_cons_zero, List.set_cons_succ, i64_w, i32_w, List.getElem_toArray, List.getElem_cons_succ, List.getElem_cons_zero]
              rfl
            refine q_take (i := 5) (N := some 133) (v := ?_) (a' := ?_) #[tt, tt, tt, tt, tt, tt, ff, ff, ff, ff, ff, ff, ff, ff, ff, ff, ff, ff, ff, ff, ff, ff, ff, ff, ff, ff, ff, ff, ff, ff] rfl rfl (take_ofW HT_.out HW_.out (by kernel_rfl)) (by decide) (quiet_val (by rfl) ?_) ?_ ?_
            rotate_left
            · intro _ w_ _
              go_simp
              with_reducible rfl
            rotate_left
            · simp only [Act.put, List.setIfInBounds_toArray, List.set_cons_zero, List.set_cons_succ, i64_w, i32_w, List.getElem_toArray, List.getElem_cons_succ, List.getElem_cons_zero]
              rfl
            refine q_take (i := 6) (N := some 134) (v := .bool false) (a' := ?_) #[tt, tt, tt, tt, tt, tt, tt, ff, ff, ff, ff, ff, ff, ff, ff, ff, ff, ff, ff, ff, ff, ff, ff, ff, ff, ff, ff, ff, ff, ff] rfl rfl (take_ofW HT_.out HW_.out (by kernel_rfl)) (by decide) (quiet_val (by rfl) ?_) ?_ ?_
            · rintro _ w_ ⟨hHB, hHG, hHX, hHV1, hHV2, hHY⟩
              skip
              go_simp
              try rfl
            rotate_left
            · simp only [Act.put, List.setIfInBounds_toArray, List.set_cons_zero, List.set_cons_succ, i64_w, i32_w, List.getElem_toArray, List.getElem_cons_succ, List.getElem_cons_zero]
              rfl
            refine q_take (i := 7) (N := some 135) (v := ?_) (a' := ?_) #[tt, tt, tt, tt, tt, tt, tt, tt, ff, ff, ff, ff, ff, ff, ff, ff, ff, ff, ff, ff, ff, ff, ff, ff, ff, ff, ff, ff, ff, ff] rfl rfl (take_ofW HT_.out HW_.out (by kernel_rfl)) (by decide) (quiet_val (by rfl) ?_) ?_ ?_
            rotate_left
            · intro _ w_ _
              go_simp
              with_reducible rfl
            rotate_left
            · simp only [Act.put, List.setIfInBounds_toArray, List.set_cons_zero, List.set_cons_succ, i64_w, i32_w, List.getElem_toArray, List.getElem_cons_succ, List.getElem_cons_zero]
              rfl
            refine q_take (i := 8) (N := some 136) (v := ?_) (a' := ?_) #[tt, tt, tt, tt, tt, tt, tt, tt, tt, ff, ff, ff, ff, ff, ff, ff, ff, ff, ff, ff, ff, ff, ff, ff, ff, ff, ff, ff, ff, ff] rfl rfl (take_ofW HT_.out HW_.out (by kernel_rfl)) (by decide) (quiet_val (by rfl) ?_) ?_ ?_
            rotate_left
            · intro _ w_ _
              go_simp
              with_reducible rfl
            rotate_left
            · simp only [Act.put, List.setIfInBounds_toArray, List.set_cons_zero, List.set_cons_succ, i64_w, i32_w, List.getElem_toArray, List.getElem_cons_succ, List.getElem_cons_zero]
              rfl
            refine q_take (i := 9) (N := some 137) (v := ?_) (a' := ?_) #[tt, tt, tt, tt, tt, tt, tt, tt, tt, tt, ff, ff, ff, ff, ff, ff, ff, ff, ff, ff, ff, ff, ff, ff, ff, ff, ff, ff, ff, ff] rfl rfl (take_ofW HT_.out HW_.out (by kernel_rfl)) (by decide) (quiet_val (by rfl) ?_) ?_ ?_
            rotate_left
            · rintro _ w_ ⟨hHB, hHG, hHX, hHV1, hHV2, hHY⟩
              have HG := Aside0.mk hHG
              clear hHG
              have cHG_0 := c3_0 HG.out
              have cHG_1 := c3_1 HG.out
              have cHG_2 := c3_2 HG.out
              go_simp
              with_reducible rfl
            rotate_left
            · simp only [Act.put, List.setIfInBounds_toArray, List.set_cons_zero, List.set_cons_succ, i64_w, i32_w, List.getElem_toArray, List.getElem_cons_succ, List.getElem_cons_zero]
              rfl
            refine q_take (i := 10) (N := some 138) (v := headV r1 bl sl) (a' := ?_) #[tt, tt, tt, tt, tt, tt, tt, tt, tt, tt, tt, ff, ff, ff, ff, ff, ff, ff, ff, ff, ff, ff, ff, ff, ff, ff, ff, ff, ff, ff] rfl rfl (take_ofW HT_.out HW_.out (by kernel_rfl)) (by decide) (quiet_val (by rfl) ?_) ?_ ?_
            · rintro _ w_ ⟨hHB, hHG, hHX, hHV1, hHV2, hHY⟩
              have HX := Aside0.mk hHX
              clear hHX
              have cHX_n := cell_no HX.out
              exact run_loadH (.tmp 9) rfl rfl HX.out HMm.out
            rotate_left
            · simp only [Act.put, List.setIfInBounds_toArray, List.set_cons_zero, List.set_cons_succ, i64_w, i32_w, List.getElem_toArray, List.getElem_cons_succ, List.getElem_cons_zero]
              rfl
            refine q_take (i := 11) (N := some 139) (v := ?_) (a' := ?_) #[tt, tt, tt, tt, tt, tt, tt, tt, tt, tt, tt, tt, ff, ff, ff, ff, ff, ff, ff, ff, ff, ff, ff, ff, ff, ff, ff, ff, ff, ff] rfl rfl (take_ofW HT_.out HW_.out (by kernel_rfl)) (by decide) (quiet_val (by rfl) ?_) ?_ ?_
            rotate_left
            · intro _ w_ _
              go_simp
              with_reducible rfl
            rotate_left
            · simp only [Act.put, List.setIfInBounds_toArray, List.set_cons_zero, List.set_cons_succ, i64_w, i32_w, List.getElem_toArray, List.getElem_cons_succ, List.getElem_cons_zero]
              rfl
            refine q_take (i := 12) (N := some 140) (v := .int .i64 (findBP G I N r1 bl sl fr)) (a' := ?_) #[tt, tt, tt, tt, tt, tt, tt, tt, tt, tt, tt, tt, tt, ff, ff, ff, ff, ff, ff, ff, ff, ff, ff, ff, ff, ff, ff, ff, ff, ff] rfl rfl (take_ofW HT_.out HW_.out (by kernel_rfl)) (by decide) (quiet_call Try.func26 (by kernel_rfl) rfl #[(.agg #[.int .i64 G, .int .i64 I, .int .i64 N]), headV r1 bl sl, .int .i64 fr] (by rfl) rfl (by (try simp only [List.map_toArray, List.map_cons, List.map_nil]); first | done | rfl) ?_) ?_ ?_
            · rintro _ w_ ⟨hHB, hHG, hHX, hHV1, hHV2, hHY⟩
              have HB := Aside0.mk hHB
              have HG := Aside0.mk hHG
              have HX := Aside0.mk hHX
              have HV1 := Aside0.mk hHV1
              have HV2 := Aside0.mk hHV2
              have HY := Aside0.mk hHY
              with_reducible refine (findB_any G I N r1 bl sl fr _ HMM.out).mono ?_
              rintro e w_2 ⟨rfl, hb⟩
              exact ⟨rfl, ⟨below_step HB.out hb, blk_below HG.out hb, HeadAt.below HX.out hb, Row8.below HV1.out hb, Row8.below HV2.out hb, blk_below HY.out hb⟩⟩
            rotate_left
            · simp only [Act.put, List.setIfInBounds_toArray, List.set_cons_zero, List.set_cons_succ, i64_w, i32_w, List.getElem_toArray, List.getElem_cons_succ, List.getElem_cons_zero]
              rfl
            refine q_take (i := 13) (N := some 141) (v := ?_) (a' := ?_) #[tt, tt, tt, tt, tt, tt, tt, tt, tt, tt, tt, tt, tt, tt, ff, ff, ff, ff, ff, ff, ff, ff, ff, ff, ff, ff, ff, ff, ff, ff] rfl rfl (take_ofW HT_.out HW_.out (by kernel_rfl)) (by decide) (quiet_val (by rfl) ?_) ?_ ?_
            rotate_left
            · rintro _ w_ ⟨hHB, hHG, hHX, hHV1, hHV2, hHY⟩
              have HG := Aside0.mk hHG
              clear hHG
              have cHG_0 := c3_0 HG.out
              have cHG_1 := c3_1 HG.out
              have cHG_2 := c3_2 HG.out
              go_simp
              with_reducible rfl
            rotate_left
            · simp only [Act.put, List.setIfInBounds_toArray, List.set_cons_zero, List.set_cons_succ, i64_w, i32_w, List.getElem_toArray, List.getElem_cons_succ, List.getElem_cons_zero]
              rfl
            refine q_take (i := 14) (N := some 142) (v := ?_) (a' := ?_) #[tt, tt, tt, tt, tt, tt, tt, tt, tt, tt, tt, tt, tt, tt, tt, ff, ff, ff, ff, ff, ff, ff, ff, ff, ff, ff, ff, ff, ff, ff] rfl rfl (take_ofW HT_.out HW_.out (by kernel_rfl)) (by decide) (quiet_val (by rfl) ?_) ?_ ?_
            rotate_left
            · rintro _ w_ ⟨hHB, hHG, hHX, hHV1, hHV2, hHY⟩
              have HY := Aside0.mk hHY
              clear hHY
              have cHY_0 := c3_0 HY.out
              have cHY_1 := c3_1 HY.out
              have cHY_2 := c3_2 HY.out
              go_simp
              with_reducible rfl
            rotate_left
            · simp only [Act.put, List.setIfInBounds_toArray, List.set_cons_zero, List.set_cons_succ, i64_w, i32_w, List.getElem_toArray, List.getElem_cons_succ, List.getElem_cons_zero]
              rfl
            refine q_take (i := 15) (N := some 143) (v := ?_) (a' := ?_) #[tt, tt, tt, tt, tt, tt, tt, tt, tt, tt, tt, tt, tt, tt, tt, tt, ff, ff, ff, ff, ff, ff, ff, ff, ff, ff, ff, ff, ff, ff] rfl rfl (take_ofW HT_.out HW_.out (by kernel_rfl)) (by decide) (quiet_val (by rfl) ?_) ?_ ?_
            rotate_left
            · intro _ w_ _
              go_simp
              with_reducible rfl
            rotate_left
            · simp only [Act.put, List.setIfInBounds_toArray, List.set_cons_zero, List.set_cons_succ, i64_w, i32_w, List.getElem_toArray, List.getElem_cons_succ, List.getElem_cons_zero]
              rfl
            refine q_take (i := 16) (N := some 144) (v := .int .i64 (findBP G I N r1 bl sl fr)) (a' := ?_) #[tt, tt, tt, tt, tt, tt, tt, tt, tt, tt, tt, tt, tt, tt, tt, tt, tt, ff, ff, ff, ff, ff, ff, ff, ff, ff, ff, ff, ff, ff] rfl rfl (take_ofW HT_.out HW_.out (by kernel_rfl)) (by decide) (quiet_call Try.func27 (by kernel_rfl) rfl #[(.agg #[.int .i64 G, .int .i64 I, .int .i64 N]), .agg #[.int .i64 r1, .slice B1 16 d1, .slice B2 8 d2], .int .i64 fr] (by rfl) rfl (by (try simp only [List.map_toArray, List.map_cons, List.map_nil]); first | done | rfl) ?_) ?_ ?_
            · rintro _ w_ ⟨hHB, hHG, hHX, hHV1, hHV2, hHY⟩
              have HB := Aside0.mk hHB
              have HG := Aside0.mk hHG
              have HX := Aside0.mk hHX
              have HV1 := Aside0.mk hHV1
              have HV2 := Aside0.mk hHV2
              have HY := Aside0.mk hHY
              with_reducible refine (refFindB_n G I N r1 fr HMM.out HV1.out HV2.out).mono ?_
              rintro e w_2 ⟨rfl, hb⟩
              exact ⟨rfl, ⟨below_step HB.out hb, blk_below HG.out hb, HeadAt.below HX.out hb, Row8.below HV1.out hb, Row8.below HV2.out hb, blk_below HY.out hb⟩⟩
            rotate_left
            · simp only [Act.put, List.setIfInBounds_toArray, List.set_cons_zero, List.set_cons_succ, i64_w, i32_w, List.getElem_toArray, List.getElem_cons_succ, List.getElem_cons_zero]
              rfl
            refine q_take (i := 17) (N := some 145) (v := .bool false) (a' := ?_) #[tt, tt, tt, tt, tt, tt, tt, tt, tt, tt, tt, tt, tt, tt, tt, tt, tt, tt, ff, ff, ff, ff, ff, ff, ff, ff, ff, ff, ff, ff] rfl rfl (take_ofW HT_.out HW_.out (by kernel_rfl)) (by decide) (quiet_val (by rfl) ?_) ?_ ?_
            · rintro _ w_ ⟨hHB, hHG, hHX, hHV1, hHV2, hHY⟩
              skip
              go_simp
              try rfl
            rotate_left
            · simp only [Act.put, List.setIfInBounds_toArray, List.set_cons_zero, List.set_cons_succ, i64_w, i32_w, List.getElem_toArray, List.getElem_cons_succ, List.getElem_cons_zero]
              rfl
            refine q_take (i := 18) (N := some 146) (v := ?_) (a' := ?_) #[tt, tt, tt, tt, tt, tt, tt, tt, tt, tt, tt, tt, tt, tt, tt, tt, tt, tt, tt, ff, ff, ff, ff, ff, ff, ff, ff, ff, ff, ff] rfl rfl (take_ofW HT_.out HW_.out (by kernel_rfl)) (by decide) (quiet_val (by rfl) ?_) ?_ ?_
            rotate_left
            · intro _ w_ _
              go_simp
              with_reducible rfl
            rotate_left
            · simp only [Act.put, List.setIfInBounds_toArray, List.set_cons_zero, List.set_cons_succ, i64_w, i32_w, List.getElem_toArray, List.getElem_cons_succ, List.getElem_cons_zero]
              rfl
            refine q_take (i := 19) (N := some 147) (v := ?_) (a' := ?_) #[tt, tt, tt, tt, tt, tt, tt, tt, tt, tt, tt, tt, tt, tt, tt, tt, tt, tt, tt, tt, ff, ff, ff, ff, ff, ff, ff, ff, ff, ff] rfl rfl (take_ofW HT_.out HW_.out (by kernel_rfl)) (by decide) (quiet_val (by rfl) ?_) ?_ ?_
            rotate_left
            · intro _ w_ _
              go_simp
              with_reducible rfl
            rotate_left
            · simp only [Act.put, List.setIfInBounds_toArray, List.set_cons_zero, List.set_cons_succ, i64_w, i32_w, List.getElem_toArray, List.getElem_cons_succ, List.getElem_cons_zero]
              rfl
            refine q_take (i := 20) (N := some 148) (v := ?_) (a' := ?_) #[tt, tt, tt, tt, tt, tt, tt, tt, tt, tt, tt, tt, tt, tt, tt, tt, tt, tt, tt, tt, tt, ff, ff, ff, ff, ff, ff, ff, ff, ff] rfl rfl (take_ofW HT_.out HW_.out (by kernel_rfl)) (by decide) (quiet_val (by rfl) ?_) ?_ ?_
            rotate_left
            · rintro _ w_ ⟨hHB, hHG, hHX, hHV1, hHV2, hHY⟩
              have HG := Aside0.mk hHG
              clear hHG
              have cHG_0 := c3_0 HG.out
              have cHG_1 := c3_1 HG.out
              have cHG_2 := c3_2 HG.out
              go_simp
              with_reducible rfl
            rotate_left
            · simp only [Act.put, List.setIfInBounds_toArray, List.set_cons_zero, List.set_cons_succ, i64_w, i32_w, List.getElem_toArray, List.getElem_cons_succ, List.getElem_cons_zero]
              rfl
            refine q_take (i := 21) (N := some 149) (v := headV r1 bl sl) (a' := ?_) #[tt, tt, tt, tt, tt, tt, tt, tt, tt, tt, tt, tt, tt, tt, tt, tt, tt, tt, tt, tt, tt, tt, ff, ff, ff, ff, ff, ff, ff, ff] rfl rfl (take_ofW HT_.out HW_.out (by kernel_rfl)) (by decide) (quiet_val (by rfl) ?_) ?_ ?_
            · rintro _ w_ ⟨hHB, hHG, hHX, hHV1, hHV2, hHY⟩
              have HX := Aside0.mk hHX
              clear hHX
              have cHX_n := cell_no HX.out
              exact run_loadH (.tmp 9) rfl rfl HX.out HMm.out
            rotate_left
            · simp only [Act.put, List.setIfInBounds_toArray, List.set_cons_zero, List.set_cons_succ, i64_w, i32_w, List.getElem_toArray, List.getElem_cons_succ, List.getElem_cons_zero]
              rfl
            refine q_take (i := 22) (N := some 150) (v := ?_) (a' := ?_) #[tt, tt, tt, tt, tt, tt, tt, tt, tt, tt, tt, tt, tt, tt, tt, tt, tt, tt, tt, tt, tt, tt, tt, ff, ff, ff, ff, ff, ff, ff] rfl rfl (take_ofW HT_.out HW_.out (by kernel_rfl)) (by decide) (quiet_val (by rfl) ?_) ?_ ?_
            rotate_left
            · intro _ w_ _
              go_simp
              with_reducible rfl
            rotate_left
            · simp only [Act.put, List.setIfInBounds_toArray, List.set_cons_zero, List.set_cons_succ, i64_w, i32_w, List.getElem_toArray, List.getElem_cons_succ, List.getElem_cons_zero]
              rfl
            refine q_take (i := 23) (N := some 151) (v := .int .i64 (findSP G I N r1 bl sl fr)) (a' := ?_) #[tt, tt, tt, tt, tt, tt, tt, tt, tt, tt, tt, tt, tt, tt, tt, tt, tt, tt, tt, tt, tt, tt, tt, tt, ff, ff, ff, ff, ff, ff] rfl rfl (take_ofW HT_.out HW_.out (by kernel_rfl)) (by decide) (quiet_call Try.func28 (by kernel_rfl) rfl #[(.agg #[.int .i64 G, .int .i64 I, .int .i64 N]), headV r1 bl sl, .int .i64 fr] (by rfl) rfl (by (try simp only [List.map_toArray, List.map_cons, List.map_nil]); first | done | rfl) ?_) ?_ ?_
            · rintro _ w_ ⟨hHB, hHG, hHX, hHV1, hHV2, hHY⟩
              have HB := Aside0.mk hHB
              have HG := Aside0.mk hHG
              have HX := Aside0.mk hHX
              have HV1 := Aside0.mk hHV1
              have HV2 := Aside0.mk hHV2
              have HY := Aside0.mk hHY
              with_reducible refine (findS_any G I N r1 bl sl fr _ HMM.out).mono ?_
              rintro e w_2 ⟨rfl, hb⟩
              exact ⟨rfl, ⟨below_step HB.out hb, blk_below HG.out hb, HeadAt.below HX.out hb, Row8.below HV1.out hb, Row8.below HV2.out hb, blk_below HY.out hb⟩⟩
            rotate_left
            · simp only [Act.put, List.setIfInBounds_toArray, List.set_cons_zero, List.set_cons_succ, i64_w, i32_w, List.getElem_toArray, List.getElem_cons_succ, List.getElem_cons_zero]
              rfl
            refine q_take (i := 24) (N := some 152) (v := ?_) (a' := ?_) #[tt, tt, tt, tt, tt, tt, tt, tt, tt, tt, tt, tt, tt, tt, tt, tt, tt, tt, tt, tt, tt, tt, tt, tt, tt, ff, ff, ff, ff, ff] rfl rfl (take_ofW HT_.out HW_.out (by kernel_rfl)) (by decide) (quiet_val (by rfl) ?_) ?_ ?_
            rotate_left
            · rintro _ w_ ⟨hHB, hHG, hHX, hHV1, hHV2, hHY⟩
              have HG := Aside0.mk hHG
              clear hHG
              have cHG_0 := c3_0 HG.out
              have cHG_1 := c3_1 HG.out
              have cHG_2 := c3_2 HG.out
              go_simp
              with_reducible rfl
            rotate_left
            · simp only [Act.put, List.setIfInBounds_toArray, List.set_cons_zero, List.set_cons_succ, i64_w, i32_w, List.getElem_toArray, List.getElem_cons_succ, List.getElem_cons_zero]
              rfl
            refine q_take (i := 25) (N := some 153) (v := ?_) (a' := ?_) #[tt, tt, tt, tt, tt, tt, tt, tt, tt, tt, tt, tt, tt, tt, tt, tt, tt, tt, tt, tt, tt, tt, tt, tt, tt, tt, ff, ff, ff, ff] rfl rfl (take_ofW HT_.out HW_.out (by kernel_rfl)) (by decide) (quiet_val (by rfl) ?_) ?_ ?_
            rotate_left
            · rintro _ w_ ⟨hHB, hHG, hHX, hHV1, hHV2, hHY⟩
              have HY := Aside0.mk hHY
              clear hHY
              have cHY_0 := c3_0 HY.out
              have cHY_1 := c3_1 HY.out
              have cHY_2 := c3_2 HY.out
              go_simp
              with_reducible rfl
            rotate_left
            · simp only [Act.put, List.setIfInBounds_toArray, List.set_cons_zero, List.set_cons_succ, i64_w, i32_w, List.getElem_toArray, List.getElem_cons_succ, List.getElem_cons_zero]
              rfl
            refine q_take (i := 26) (N := some 154) (v := ?_) (a' := ?_) #[tt, tt, tt, tt, tt, tt, tt, tt, tt, tt, tt, tt, tt, tt, tt, tt, tt, tt, tt, tt, tt, tt, tt, tt, tt, tt, tt, ff, ff, ff] rfl rfl (take_ofW HT_.out HW_.out (by kernel_rfl)) (by decide) (quiet_val (by rfl) ?_) ?_ ?_
            rotate_left
            · intro _ w_ _
              go_simp
              with_reducible rfl
            rotate_left
            · simp only [Act.put, List.setIfInBounds_toArray, List.set_cons_zero, List.set_cons_succ, i64_w, i32_w, List.getElem_toArray, List.getElem_cons_succ, List.getElem_cons_zero]
              rfl
            refine q_take (i := 27) (N := some 155) (v := .int .i64 (findSP G I N r1 bl sl fr)) (a' := ?_) #[tt, tt, tt, tt, tt, tt, tt, tt, tt, tt, tt, tt, tt, tt, tt, tt, tt, tt, tt, tt, tt, tt, tt, tt, tt, tt, tt, tt, ff, ff] rfl rfl (take_ofW HT_.out HW_.out (by kernel_rfl)) (by decide) (quiet_call Try.func29 (by kernel_rfl) rfl #[(.agg #[.int .i64 G, .int .i64 I, .int .i64 N]), .agg #[.int .i64 r1, .slice B1 16 d1, .slice B2 8 d2], .int .i64 fr] (by rfl) rfl (by (try simp only [List.map_toArray, List.map_cons, List.map_nil]); first | done | rfl) ?_) ?_ ?_
            · rintro _ w_ ⟨hHB, hHG, hHX, hHV1, hHV2, hHY⟩
              have HB := Aside0.mk hHB
              have HG := Aside0.mk hHG
              have HX := Aside0.mk hHX
              have HV1 := Aside0.mk hHV1
              have HV2 := Aside0.mk hHV2
              have HY := Aside0.mk hHY
              with_reducible refine (refFindS_n G I N r1 fr HMM.out HV1.out HV2.out).mono ?_
              rintro e w_2 ⟨rfl, hb⟩
              exact ⟨rfl, ⟨below_step HB.out hb, blk_below HG.out hb, HeadAt.below HX.out hb, Row8.below HV1.out hb, Row8.below HV2.out hb, blk_below HY.out hb⟩⟩
            rotate_left
            · simp only [Act.put, List.setIfInBounds_toArray, List.set_cons_zero, List.set_cons_succ, i64_w, i32_w, List.getElem_toArray, List.getElem_cons_succ, List.getElem_cons_zero]
              rfl
            refine q_take (i := 28) (N := some 156) (v := .bool false) (a' := ?_) #[tt, tt, tt, tt, tt, tt, tt, tt, tt, tt, tt, tt, tt, tt, tt, tt, tt, tt, tt, tt, tt, tt, tt, tt, tt, tt, tt, tt, tt, ff] rfl rfl (take_ofW HT_.out HW_.out (by kernel_rfl)) (by decide) (quiet_val (by rfl) ?_) ?_ ?_
            · rintro _ w_ ⟨hHB, hHG, hHX, hHV1, hHV2, hHY⟩
              skip
              go_simp
              try rfl
            rotate_left
            · simp only [Act.put, List.setIfInBounds_toArray, List.set_cons_zero, List.set_cons_succ, i64_w, i32_w, List.getElem_toArray, List.getElem_cons_succ, List.getElem_cons_zero]
              rfl
            refine q_take (i := 29) (N := some 157) (v := ?_) (a' := ?_) #[tt, tt, tt, tt, tt, tt, tt, tt, tt, tt, tt, tt, tt, tt, tt, tt, tt, tt, tt, tt, tt, tt, tt, tt, tt, tt, tt, tt, tt, tt] rfl rfl (take_ofW HT_.out HW_.out (by kernel_rfl)) (by decide) (quiet_val (by rfl) ?_) ?_ ?_
            rotate_left
            · intro _ w_ _
              go_simp
              with_reducible rfl
            rotate_left
            · simp only [Act.put, List.setIfInBounds_toArray, List.set_cons_zero, List.set_cons_succ, i64_w, i32_w, List.getElem_toArray, List.getElem_cons_succ, List.getElem_cons_zero]
              rfl
            refine q_done (done_of HT_.out (by kernel_rfl)) ?_
            rintro w_ ⟨hHB, hHG, hHX, hHV1, hHV2, hHY⟩
            have HB := Aside0.mk hHB
            have HG := Aside0.mk hHG
            have HX := Aside0.mk hHX
            have HV1 := Aside0.mk hHV1
            have HV2 := Aside0.mk hHV2
            have HY := Aside0.mk hHY
            clear hHB hHG hHX hHV1 hHV2 hHY
            have cHG_0 := c3_0 HG.out
            have cHG_1 := c3_1 HG.out
            have cHG_2 := c3_2 HG.out
            have cHX_n := cell_no HX.out
            have cHY_0 := c3_0 HY.out
            have cHY_1 := c3_1 HY.out
            have cHY_2 := c3_2 HY.out
            go_wp2
            go_roundw
            case rel => exact ⟨i + 1, bl, sl, B1, d1, B2, d2, by omega, by omega, by go_num, HMM, HB, HG, HX, HV1, HV2, HY⟩
            case measure => simp [intOf]; omega
      · have b2 : decide ((i : Int) < 60) = false := decide_eq_false (by omega)
        go_wp2_with (first
            | (go_at_call 19; go_loud ((with_reducible refine (known_any _).mono ?_); rintro e w_ ⟨rfl, hb⟩; clear cHG_0 cHG_1 cHG_2 cHX_n cHY_0 cHY_1 cHY_2; replace HB := Aside0.mk (below_step HB.out hb); replace HG := Aside0.mk (blk_below HG.out hb); replace HX := Aside0.mk (HeadAt.below HX.out hb); replace HV1 := Aside0.mk (Row8.below HV1.out hb); replace HV2 := Aside0.mk (Row8.below HV2.out hb); replace HY := Aside0.mk (blk_below HY.out hb); clear hb; have cHG_0 := c3_0 HG.out; have cHG_1 := c3_1 HG.out; have cHG_2 := c3_2 HG.out; have cHX_n := cell_no HX.out; have cHY_0 := c3_0 HY.out; have cHY_1 := c3_1 HY.out; have cHY_2 := c3_2 HY.out)))
        go_ret
        exact ⟨rfl, HB.out⟩
    · have b1 : decide ((i : Int) < (l2.length : Int)) = false := decide_eq_false (by omega)
      go_wp2_with (first
          | (go_at_call 19; go_loud ((with_reducible refine (known_any _).mono ?_); rintro e w_ ⟨rfl, hb⟩; clear cHG_0 cHG_1 cHG_2 cHX_n cHY_0 cHY_1 cHY_2; replace HB := Aside0.mk (below_step HB.out hb); replace HG := Aside0.mk (blk_below HG.out hb); replace HX := Aside0.mk (HeadAt.below HX.out hb); replace HV1 := Aside0.mk (Row8.below HV1.out hb); replace HV2 := Aside0.mk (Row8.below HV2.out hb); replace HY := Aside0.mk (blk_below HY.out hb); clear hb; have cHG_0 := c3_0 HG.out; have cHG_1 := c3_1 HG.out; have cHG_2 := c3_2 HG.out; have cHX_n := cell_no HX.out; have cHY_0 := c3_0 HY.out; have cHY_1 := c3_1 HY.out; have cHY_2 := c3_2 HY.out)))
      go_ret
      exact ⟨rfl, HB.out⟩
end Go.Proofs.Ytonkgfgciegknaa.P