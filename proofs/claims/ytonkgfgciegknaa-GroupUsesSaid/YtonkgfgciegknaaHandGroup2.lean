/-
group.Fresh, Right, walked by hand.
Conditions: none.
-/
import Derived.Test.YtonkgfgciegknaaHandGroup1
namespace Go.Proofs.Ytonkgfgciegknaa.P
open Go.RowKit Go.Proofs.YtonkgfgciegknaaW.PrintWords Go.Proofs.YtonkgfgciegknaaW.PrintLast Go.Proofs.YtonkgfgciegknaaW.PrintMore
attribute [local go_sem] max2_int min2_int max_two min_two max_three min_three max_four min_four
set_option linter.unusedVariables false
set_option linter.unusedSimpArgs false
set_option maxHeartbeats 8000000 in
set_option maxRecDepth 100000 in
theorem fresh_yes (G I N no : Int) (w : World) (h : okS G I N no = true) :
    Calls Try.prog 13 #[.agg #[.int .i64 G, .int .i64 I, .int .i64 N], .int .i64 no] w fun e w' => e = .returned (.tuple #[headV no (onesL (1 + I / 4).toNat) (slots0 no), .int .i64 0]) ∧ Below w.heap.size w w' := by
  unfold okS at h
  simp only [Bool.and_eq_true, decide_eq_true_eq] at h
  obtain ⟨⟨hR, h0⟩, h1⟩ := h
  obtain ⟨q, hq⟩ : ∃ q, q = 2 + no * G := ⟨_, rfl⟩
  have HH : Aside0 (geo_Head.f 2 G I N no = some (q, 0)) := ⟨by rw [Geo.Head_eq 0, Geo.headS, if_pos hR, if_neg (by omega), if_neg (by omega), hq]⟩
  have HR := Aside0.mk hR
  have HZ := Aside0.mk zeros_maps
  have HM := Aside0.mk (fresh_maps (1 + I / 4).toNat no)
  clear hR h0 h1 hq
  have HB := Aside0.mk (Below.refl w.heap.size w)
  go_enter Try.func13, Try.ntmps13
  go_wp2_with (first
    | ((with_reducible refine gate_dst (N := 2) rfl ?_); go_loud (refine box_event ?hg (N := 2) ?hd (cs := ([.int .i64 G, .int .i64 I, .int .i64 N]).toArray) (t := 23) ?hr ?_; (case hd => rfl); (case hg => rfl); (case hr => first | kernel_rfl | (go_simp; done) | (go_simp; rfl)); intro g2 hg w_ hx hb; have GE_HG := Aside0.mk (show w.heap.size ≤ g2 by have := HB.out.size; omega); clear hg; replace HB := Aside0.mk (below_step HB.out hb); clear hb; have HG : Aside0 (w_.heap[g2]? = some (.cells #[.int .i64 G, .int .i64 I, .int .i64 N] 23 (0, 0))) := ⟨hx⟩; clear hx; have cHG_0 := c3_0 HG.out; have cHG_1 := c3_1 HG.out; have cHG_2 := c3_2 HG.out))
    | ((with_reducible refine gate_dst (N := 4) rfl ?_); go_loud (refine box_event ?hg (N := 4) ?hd (cs := (headC 0 (zeros 16) (zeros 8)).toArray) (t := 28) ?hr ?_; (case hd => rfl); (case hg => rfl); (case hr => kernel_rfl); intro g4 hg w_ hx hb; have NE_HG_HX := Aside0.mk (new_ne HG.out hg); have GE_HX := Aside0.mk (show w.heap.size ≤ g4 by have := HB.out.size; omega); clear hg; clear cHG_0 cHG_1 cHG_2; replace HB := Aside0.mk (below_step HB.out hb); replace HG := Aside0.mk (blk_below HG.out hb); clear hb; have HX : Aside0 (HeadAt w_ g4 0 (zeros 16) (zeros 8)) := ⟨hx⟩; clear hx; have cHG_0 := c3_0 HG.out; have cHG_1 := c3_1 HG.out; have cHG_2 := c3_2 HG.out; have cHX_n := cell_no HX.out))
    | (go_at_call 37; go_loud (with_reducible refine (geo_Head.calls 2 G I N no q 0 _ HH.out).mono ?_; rintro e w_ ⟨rfl, hb⟩; clear cHG_0 cHG_1 cHG_2 cHX_n; replace HB := Aside0.mk (below_step HB.out hb); replace HG := Aside0.mk (blk_below HG.out hb); replace HX := Aside0.mk (HeadAt.below HX.out hb); clear hb; have cHG_0 := c3_0 HG.out; have cHG_1 := c3_1 HG.out; have cHG_2 := c3_2 HG.out; have cHX_n := cell_no HX.out))
    | (go_at_call 38; go_loud (with_reducible refine (base_any G I N no _ HR.out).mono ?_; rintro e w_ ⟨rfl, hb⟩; clear cHG_0 cHG_1 cHG_2 cHX_n; replace HB := Aside0.mk (below_step HB.out hb); replace HG := Aside0.mk (blk_below HG.out hb); replace HX := Aside0.mk (HeadAt.below HX.out hb); clear hb; have cHG_0 := c3_0 HG.out; have cHG_1 := c3_1 HG.out; have cHG_2 := c3_2 HG.out; have cHX_n := cell_no HX.out))
    | ((refine gate_store (t := 28) (p := 4) rfl ?_); go_loud (refine store_all (P := Try.prog) (t := 28) (p := 4) (v := .tmp 19) ?hgd ?hN ?ho g4 (headC no (onesL (1 + I / 4).toNat) (slots0 no)) ?hx ?hy _ _ HX.out (hi_head HM.out) (hold_head HZ.out HM.out) (head_one _ _ _) w.heap.size w HB.out GE_HX.out ?_; (case hgd => rfl); (case hN => rfl); (case ho => rfl); (case hx => rfl); (case hy => rfl); intro w_ hx_ ho_ hb_; clear cHG_0 cHG_1 cHG_2 cHX_n; replace HG := Aside0.mk ((ho_ _ NE_HG_HX.out).trans HG.out); clear HB; have HB := Aside0.mk hb_; clear hb_; clear HX; have HX : Aside0 (HeadAt w_ g4 no (onesL (1 + I / 4).toNat) (slots0 no)) := ⟨hx_⟩; clear hx_ ho_; have cHG_0 := c3_0 HG.out; have cHG_1 := c3_1 HG.out; have cHG_2 := c3_2 HG.out; have cHX_n := cell_no HX.out)))
  refine bodyPost_ret (ret_head_t rfl _ _ g4 rfl HX.out HM.out) rfl ?_
  exact ⟨rfl, HB.out⟩
set_option maxHeartbeats 8000000 in
set_option maxRecDepth 100000 in
theorem fresh_no (G I N no : Int) (w : World) (h : okS G I N no = false) :
    Calls Try.prog 13 #[.agg #[.int .i64 G, .int .i64 I, .int .i64 N], .int .i64 no] w fun e w' => e = .returned (.tuple #[headV 0 (zeros 16) (zeros 8), .int .i64 1]) ∧ Below w.heap.size w w' := by
  obtain ⟨q, hq, hq0⟩ : ∃ q, geo_Head.f 2 G I N no = some (0, q) ∧ q ≠ 0 := by
    rw [Geo.Head_eq 0, Geo.headS]
    by_cases hR : Geo.R G I N = true
    · rw [if_pos hR]
      unfold okS at h
      rw [hR, Bool.true_and] at h
      by_cases h0 : no < 0
      · exact ⟨3, by rw [if_pos h0], by decide⟩
      · rw [decide_eq_true (by omega : 0 ≤ no), Bool.true_and] at h
        have h1 := of_decide_eq_false h
        exact ⟨3, by rw [if_neg h0, if_pos (by omega)], by decide⟩
    · exact ⟨1, by rw [if_neg hR], by decide⟩
  have HH := Aside0.mk hq
  have HZ := Aside0.mk zeros_maps
  have hne : (q != 0) = true := bne_iff_ne.mpr hq0
  have heq : (q == 0) = false := beq_eq_false_iff_ne.mpr hq0
  clear hq hq0 h
  have HB := Aside0.mk (Below.refl w.heap.size w)
  go_enter Try.func13, Try.ntmps13
  go_wp2_with (first
    | ((with_reducible refine gate_dst (N := 2) rfl ?_); go_loud (refine box_event ?hg (N := 2) ?hd (cs := ([.int .i64 G, .int .i64 I, .int .i64 N]).toArray) (t := 23) ?hr ?_; (case hd => rfl); (case hg => rfl); (case hr => first | kernel_rfl | (go_simp; done) | (go_simp; rfl)); intro g2 hg w_ hx hb; have GE_HG := Aside0.mk (show w.heap.size ≤ g2 by have := HB.out.size; omega); clear hg; replace HB := Aside0.mk (below_step HB.out hb); clear hb; have HG : Aside0 (w_.heap[g2]? = some (.cells #[.int .i64 G, .int .i64 I, .int .i64 N] 23 (0, 0))) := ⟨hx⟩; clear hx; have cHG_0 := c3_0 HG.out; have cHG_1 := c3_1 HG.out; have cHG_2 := c3_2 HG.out))
    | ((with_reducible refine gate_dst (N := 4) rfl ?_); go_loud (refine box_event ?hg (N := 4) ?hd (cs := (headC 0 (zeros 16) (zeros 8)).toArray) (t := 28) ?hr ?_; (case hd => rfl); (case hg => rfl); (case hr => kernel_rfl); intro g4 hg w_ hx hb; have NE_HG_HX := Aside0.mk (new_ne HG.out hg); have GE_HX := Aside0.mk (show w.heap.size ≤ g4 by have := HB.out.size; omega); clear hg; clear cHG_0 cHG_1 cHG_2; replace HB := Aside0.mk (below_step HB.out hb); replace HG := Aside0.mk (blk_below HG.out hb); clear hb; have HX : Aside0 (HeadAt w_ g4 0 (zeros 16) (zeros 8)) := ⟨hx⟩; clear hx; have cHG_0 := c3_0 HG.out; have cHG_1 := c3_1 HG.out; have cHG_2 := c3_2 HG.out; have cHX_n := cell_no HX.out))
    | (go_at_call 37; go_loud (with_reducible refine (geo_Head.calls 2 G I N no 0 q _ HH.out).mono ?_; rintro e w_ ⟨rfl, hb⟩; clear cHG_0 cHG_1 cHG_2 cHX_n; replace HB := Aside0.mk (below_step HB.out hb); replace HG := Aside0.mk (blk_below HG.out hb); replace HX := Aside0.mk (HeadAt.below HX.out hb); clear hb; have cHG_0 := c3_0 HG.out; have cHG_1 := c3_1 HG.out; have cHG_2 := c3_2 HG.out; have cHX_n := cell_no HX.out))
    | ((refine gate_store (t := 28) (p := 4) rfl ?_); go_loud (refine store_all (P := Try.prog) (t := 28) (p := 4) (v := .tmp 16) ?hgd ?hN ?ho g4 (headC 0 (zeros 16) (zeros 8)) ?hx ?hy _ _ HX.out (hi_head HZ.out) (hold_head HZ.out HZ.out) (head_one _ _ _) w.heap.size w HB.out GE_HX.out ?_; (case hgd => rfl); (case hN => rfl); (case ho => rfl); (case hx => rfl); (case hy => rfl); intro w_ hx_ ho_ hb_; clear cHG_0 cHG_1 cHG_2 cHX_n; replace HG := Aside0.mk ((ho_ _ NE_HG_HX.out).trans HG.out); clear HB; have HB := Aside0.mk hb_; clear hb_; clear HX; have HX : Aside0 (HeadAt w_ g4 0 (zeros 16) (zeros 8)) := ⟨hx_⟩; clear hx_ ho_; have cHG_0 := c3_0 HG.out; have cHG_1 := c3_1 HG.out; have cHG_2 := c3_2 HG.out; have cHX_n := cell_no HX.out)))
  refine bodyPost_ret (ret_head_t rfl _ _ g4 rfl HX.out HZ.out) rfl ?_
  exact ⟨rfl, HB.out⟩
end Go.Proofs.Ytonkgfgciegknaa.P