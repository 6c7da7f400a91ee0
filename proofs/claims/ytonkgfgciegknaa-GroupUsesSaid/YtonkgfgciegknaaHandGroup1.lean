/-
group.base, walked by hand.
Conditions: none.
-/
import Derived.Test.YtonkgfgciegknaaGroupS
namespace Go.Proofs.Ytonkgfgciegknaa.P
open Go.RowKit Go.Proofs.YtonkgfgciegknaaW.PrintWords Go.Proofs.YtonkgfgciegknaaW.PrintLast Go.Proofs.YtonkgfgciegknaaW.PrintMore
attribute [local go_sem] max2_int min2_int max_two min_two max_three min_three max_four min_four
set_option linter.unusedVariables false
set_option linter.unusedSimpArgs false
set_option maxHeartbeats 4000000 in
set_option maxRecDepth 100000 in
theorem base_any (G I N no : Int) (w : World) (hR : Geo.R G I N = true) :
    Calls Try.prog 38 #[.agg #[.int .i64 G, .int .i64 I, .int .i64 N], .int .i64 no] w fun e w' => e = .returned (headV no (onesL (1 + I / 4).toNat) (slots0 no)) ∧ Below w.heap.size w w' := by
  have hT : geo_Tables.f 2 G I N = some (I / 4) := by rw [Geo.Tables_eq 0, Geo.tablesS, if_pos hR]
  have HT := Aside0.mk hT
  have HR := Aside0.mk hR
  have hI := (Geo.R_iff.mp hR)
  obtain ⟨n, hn⟩ : ∃ n : Nat, (n : Int) = 1 + I / 4 := ⟨(1 + I / 4).toNat, by omega⟩
  have hn17 : n ≤ 17 := by omega
  have hw : wrap64 (1 + I / 4) = n := by rw [hn]; unfold wrap64; omega
  have HN : Aside0 ((1 + I / 4).toNat = n) := ⟨by omega⟩
  have HN17 := Aside0.mk hn17
  have HZ := Aside0.mk zeros_maps
  have HB := Aside0.mk (Below.refl w.heap.size w)
  have hbn := built_no no
  clear hT hR hI hn hn17
  go_enter Try.func38, Try.ntmps38
  go_wp2_with (first
    | ((with_reducible refine gate_dst (N := 2) rfl ?_); go_loud (refine box_event ?hg (N := 2) ?hd (cs := ([.int .i64 G, .int .i64 I, .int .i64 N]).toArray) (t := 23) ?hr ?_; (case hd => rfl); (case hg => rfl); (case hr => first | kernel_rfl | (go_simp; done) | (go_simp; rfl)); intro g2 hg w_ hx hb; have GE_HG := Aside0.mk (show w.heap.size ≤ g2 by have := HB.out.size; omega); clear hg; replace HB := Aside0.mk (below_step HB.out hb); clear hb; have HG : Aside0 (w_.heap[g2]? = some (.cells #[.int .i64 G, .int .i64 I, .int .i64 N] 23 (0, 0))) := ⟨hx⟩; clear hx; have cHG_0 := c3_0 HG.out; have cHG_1 := c3_1 HG.out; have cHG_2 := c3_2 HG.out))
    | ((with_reducible refine gate_dst (N := 4) rfl ?_); go_loud (refine box_event ?hg (N := 4) ?hd (cs := (headC 0 (zeros 16) (zeros 8)).toArray) (t := 28) ?hr ?_; (case hd => rfl); (case hg => rfl); (case hr => kernel_rfl); intro g4 hg w_ hx hb; have NE_HG_HX := Aside0.mk (new_ne HG.out hg); have GE_HX := Aside0.mk (show w.heap.size ≤ g4 by have := HB.out.size; omega); clear hg; clear cHG_0 cHG_1 cHG_2; replace HB := Aside0.mk (below_step HB.out hb); replace HG := Aside0.mk (blk_below HG.out hb); clear hb; have HX : Aside0 (HeadAt w_ g4 0 (zeros 16) (zeros 8)) := ⟨hx⟩; clear hx; have cHG_0 := c3_0 HG.out; have cHG_1 := c3_1 HG.out; have cHG_2 := c3_2 HG.out; have cHX_n := cell_no HX.out))
    | ((with_reducible refine gate_dst (N := 5) rfl ?_); go_loud (refine box_event ?hg (N := 5) ?hd (cs := (headC 0 (zeros 16) (zeros 8)).toArray) (t := 28) ?hr ?_; (case hd => rfl); (case hg => rfl); (case hr => kernel_rfl); intro g5 hg w_ hx hb; have NE_HG_HY := Aside0.mk (new_ne HG.out hg); have NE_HX_HY := Aside0.mk (new_ne HX.out hg); have GE_HY := Aside0.mk (show w.heap.size ≤ g5 by have := HB.out.size; omega); clear hg; clear cHG_0 cHG_1 cHG_2 cHX_n; replace HB := Aside0.mk (below_step HB.out hb); replace HG := Aside0.mk (blk_below HG.out hb); replace HX := Aside0.mk (HeadAt.below HX.out hb); clear hb; have HY : Aside0 (HeadAt w_ g5 0 (zeros 16) (zeros 8)) := ⟨hx⟩; clear hx; have cHG_0 := c3_0 HG.out; have cHG_1 := c3_1 HG.out; have cHG_2 := c3_2 HG.out; have cHX_n := cell_no HX.out; have cHY_n := cell_no HY.out))
    | ((refine gate_store (t := 28) (p := 5) rfl ?_); go_loud (refine store_all (P := Try.prog) (t := 28) (p := 5) (v := .tmp 8) ?hgd ?hN ?ho g5 (headC no (zeros 16) (zeros 8)) ?hx ?hy _ _ HY.out (hi_head HZ.out) (hold_head HZ.out HZ.out) (head_one _ _ _) w.heap.size w HB.out GE_HY.out ?_; (case hgd => rfl); (case hN => rfl); (case ho => rfl); (case hx => rfl); (case hy => rfl); intro w_ hx_ ho_ hb_; clear cHG_0 cHG_1 cHG_2 cHX_n cHY_n; replace HG := Aside0.mk ((ho_ _ NE_HG_HY.out).trans HG.out); replace HX := Aside0.mk (HeadAt.other HX.out ho_ NE_HX_HY.out); clear HB; have HB := Aside0.mk hb_; clear hb_; clear HY; have HY : Aside0 (HeadAt w_ g5 no (zeros 16) (zeros 8)) := ⟨hx_⟩; clear hx_ ho_; have cHG_0 := c3_0 HG.out; have cHG_1 := c3_1 HG.out; have cHG_2 := c3_2 HG.out; have cHX_n := cell_no HX.out; have cHY_n := cell_no HY.out))
    | (go_at_call 44; go_loud (with_reducible refine (geo_Tables.calls 2 G I N (I / 4) _ HT.out).mono ?_; rintro e w_ ⟨rfl, hb⟩; clear cHG_0 cHG_1 cHG_2 cHX_n cHY_n; replace HB := Aside0.mk (below_step HB.out hb); replace HG := Aside0.mk (blk_below HG.out hb); replace HX := Aside0.mk (HeadAt.below HX.out hb); replace HY := Aside0.mk (HeadAt.below HY.out hb); clear hb; have cHG_0 := c3_0 HG.out; have cHG_1 := c3_1 HG.out; have cHG_2 := c3_2 HG.out; have cHX_n := cell_no HX.out; have cHY_n := cell_no HY.out)))
  clear cHG_0 cHG_1 cHG_2 cHX_n cHY_n
  go_loopw [12] (fun v12 wr => ∃ i : Nat, i ≤ n ∧ v12 = .int .i64 i ∧ Aside0 (Below w.heap.size w wr) ∧ Aside0 (wr.heap[g2]? = some (.cells #[.int .i64 G, .int .i64 I, .int .i64 N] 23 (0, 0))) ∧ Aside0 (HeadAt wr g4 0 (zeros 16) (zeros 8)) ∧ Aside0 (HeadAt wr g5 no (onesL i) (zeros 8))) (fun v12 _ => n - (intOf v12).toNat)
  case atStart => exact ⟨0, by omega, rfl, HB, HG, HX, HY⟩
  case round =>
    clear HB HG HX HY
    obtain ⟨i, hi, rfl, HB, HG, HX, HY⟩ := hrel
    have HM : Aside0 (Maps (onesL i) (zeros 8)) := ⟨⟨onesL_length i, rfl⟩⟩
    have hi17 : i ≤ 17 := by have := HN17.out; omega
    by_cases hlt : i < n
    · have cHG_0 := c3_0 HG.out; have cHG_1 := c3_1 HG.out; have cHG_2 := c3_2 HG.out; have cHX_n := cell_no HX.out; have cHY_n := cell_no HY.out
      have hd8 := div8 i (by omega)
      have hm8 := mod8 i
      have cb := cell_bl HY.out HM.out (i / 8) (by have := HN17.out; omega)
      have fb := blk_frozen HY.out (1 + i / 8)
      go_wp2
      go_region
      go_wp2
      have yHB := below_drew (below_set (j := (1 + i / 8)) (v := .int .u8 (bits .or .u8 (rd (onesL i) ((i : Int) / 8)) (2 ^ (i % 8) % 256))) HB.out GE_HY.out)
      have yHG := blk_drew (blk_far (p := ⟨g5, (1 + i / 8), none⟩) HG.out NE_HG_HY.out (.int .u8 (bits .or .u8 (rd (onesL i) ((i : Int) / 8)) (2 ^ (i % 8) % 256))))
      have yHX := blk_drew (blk_far (p := ⟨g5, (1 + i / 8), none⟩) HX.out NE_HX_HY.out (.int .u8 (bits .or .u8 (rd (onesL i) ((i : Int) / 8)) (2 ^ (i % 8) % 256))))
      have yHY := blk_drew (put_bl HY.out HM.out (i / 8) (by have := HN17.out; omega) (bits .or .u8 (rd (onesL i) ((i : Int) / 8)) (2 ^ (i % 8) % 256)))
      go_roundw
      case rel => exact ⟨i + 1, by omega, by go_num, ⟨yHB⟩, ⟨yHG⟩, ⟨yHX⟩, ⟨yHY⟩⟩
      case measure => simp [intOf]; omega
    · obtain rfl : i = n := by omega
      have HM2 := Aside0.mk (fresh_maps i no)
      by_cases hno : no = 0
      · have cHG_0 := c3_0 HG.out; have cHG_1 := c3_1 HG.out; have cHG_2 := c3_2 HG.out; have cHX_n := cell_no HX.out; have cHY_n := cell_no HY.out
        have PUT : Aside0 (HeadAt (wr.setCell ⟨g5, 17, none⟩ (.int .u8 3)) g5 no (onesL i) (slots0 no)) := ⟨by
          have h := put_sl HY.out HM.out 0 (by decide) 3
          rw [slots0, if_pos hno]
          exact h⟩
        have cs := cell_sl HY.out HM.out 0 (by decide)
        have fs := blk_frozen HY.out 17
        have hno' : (no == 0) = true := beq_iff_eq.mpr hno
        go_wp2_with (first
          | ((refine gate_store (t := 5) (p := 30) rfl ?_); go_loud (refine store_event (t := 5) (p := 30) (v := .const (.int .u8 3)) (w1 := wr.setCell ⟨g5, 17, none⟩ (.int .u8 3)) ?hg ?ho ?hn ?hr ?_; (case ho => rfl); (case hg => rfl); (case hn => rfl); (case hr => first | (go_simp; done) | (go_simp; rfl)); intro w_ hw_; clear cHG_0 cHG_1 cHG_2 cHX_n cHY_n; have yHB := below_set (j := 17) (v := .int .u8 3) HB.out GE_HY.out; have yHG := blk_far (p := ⟨g5, 17, none⟩) HG.out NE_HG_HY.out (.int .u8 3); have yHX := blk_far (p := ⟨g5, 17, none⟩) HX.out NE_HX_HY.out (.int .u8 3); have yHY := PUT.out; rw [← hw_] at yHB yHG yHX yHY; clear hw_ HB HG HX HY; have HB : Aside0 (Below w.heap.size w w_) := ⟨yHB⟩; have HG : Aside0 (w_.heap[g2]? = some (.cells #[.int .i64 G, .int .i64 I, .int .i64 N] 23 (0, 0))) := ⟨yHG⟩; have HX : Aside0 (HeadAt w_ g4 0 (zeros 16) (zeros 8)) := ⟨yHX⟩; have HY : Aside0 (HeadAt w_ g5 no (onesL i) (slots0 no)) := ⟨yHY⟩; clear yHB yHG yHX yHY; have cHG_0 := c3_0 HG.out; have cHG_1 := c3_1 HG.out; have cHG_2 := c3_2 HG.out; have cHX_n := cell_no HX.out; have cHY_n := cell_no HY.out))
          | ((with_reducible refine gate_dst (N := 31) rfl ?_); go_loud (refine wl_head ?hw (.tmp 5) ?ho ?hx HY.out HM2.out ?_; (case hw => first | rfl | (go_simp; done)); (case ho => rfl); (case hx => rfl)))
          | ((refine gate_store (t := 28) (p := 4) rfl ?_); go_loud (refine store_all (P := Try.prog) (t := 28) (p := 4) (v := .tmp 31) ?hgd ?hN ?ho g4 (headC no (onesL i) (slots0 no)) ?hx ?hy _ _ HX.out (hi_head HM2.out) (hold_head HZ.out HM2.out) (head_one _ _ _) w.heap.size w HB.out GE_HX.out ?_; (case hgd => rfl); (case hN => rfl); (case ho => rfl); (case hx => rfl); (case hy => rfl); intro w_ hx_ ho_ hb_; clear cHG_0 cHG_1 cHG_2 cHX_n cHY_n; replace HG := Aside0.mk ((ho_ _ NE_HG_HX.out).trans HG.out); replace HY := Aside0.mk (HeadAt.other HY.out ho_ (Ne.symm NE_HX_HY.out)); clear HB; have HB := Aside0.mk hb_; clear hb_; clear HX; have HX : Aside0 (HeadAt w_ g4 no (onesL i) (slots0 no)) := ⟨hx_⟩; clear hx_ ho_; have cHG_0 := c3_0 HG.out; have cHG_1 := c3_1 HG.out; have cHG_2 := c3_2 HG.out; have cHX_n := cell_no HX.out; have cHY_n := cell_no HY.out)))
        refine bodyPost_ret (ret_head rfl _ _ g4 rfl HX.out HM2.out) rfl ?_
        exact ⟨by rw [HN.out], HB.out⟩
      · have h0 : slots0 no = zeros 8 := if_neg hno
        rw [← h0] at HY
        have cHG_0 := c3_0 HG.out; have cHG_1 := c3_1 HG.out; have cHG_2 := c3_2 HG.out; have cHX_n := cell_no HX.out; have cHY_n := cell_no HY.out
        have hno' : (no == 0) = false := beq_eq_false_iff_ne.mpr hno
        go_wp2_with (first
          | ((with_reducible refine gate_dst (N := 31) rfl ?_); go_loud (refine wl_head ?hw (.tmp 5) ?ho ?hx HY.out HM2.out ?_; (case hw => first | rfl | (go_simp; done)); (case ho => rfl); (case hx => rfl)))
          | ((refine gate_store (t := 28) (p := 4) rfl ?_); go_loud (refine store_all (P := Try.prog) (t := 28) (p := 4) (v := .tmp 31) ?hgd ?hN ?ho g4 (headC no (onesL i) (slots0 no)) ?hx ?hy _ _ HX.out (hi_head HM2.out) (hold_head HZ.out HM2.out) (head_one _ _ _) w.heap.size w HB.out GE_HX.out ?_; (case hgd => rfl); (case hN => rfl); (case ho => rfl); (case hx => rfl); (case hy => rfl); intro w_ hx_ ho_ hb_; clear cHG_0 cHG_1 cHG_2 cHX_n cHY_n; replace HG := Aside0.mk ((ho_ _ NE_HG_HX.out).trans HG.out); replace HY := Aside0.mk (HeadAt.other HY.out ho_ (Ne.symm NE_HX_HY.out)); clear HB; have HB := Aside0.mk hb_; clear hb_; clear HX; have HX : Aside0 (HeadAt w_ g4 no (onesL i) (slots0 no)) := ⟨hx_⟩; clear hx_ ho_; have cHG_0 := c3_0 HG.out; have cHG_1 := c3_1 HG.out; have cHG_2 := c3_2 HG.out; have cHX_n := cell_no HX.out; have cHY_n := cell_no HY.out)))
        refine bodyPost_ret (ret_head rfl _ _ g4 rfl HX.out HM2.out) rfl ?_
        exact ⟨by rw [HN.out], HB.out⟩
end Go.Proofs.Ytonkgfgciegknaa.P