/-
group.Right, walked by hand.
Conditions: none.
-/
import Derived.Test.YtonkgfgciegknaaHandGroup2
import Derived.Test.YtonkgfgciegknaaQuiet
namespace Go.Proofs.Ytonkgfgciegknaa.P
open Go.RowKit Go.Proofs.YtonkgfgciegknaaW.PrintWords Go.Proofs.YtonkgfgciegknaaW.PrintLast Go.Proofs.YtonkgfgciegknaaW.PrintMore
attribute [local go_sem] max2_int min2_int max_two min_two max_three min_three max_four min_four
set_option linter.unusedVariables false
set_option linter.unusedSimpArgs false
set_option maxHeartbeats 16000000 in
set_option maxRecDepth 100000 in
theorem right_bad (G I N no : Int) (bl sl : List Int) (w : World) (hm : Maps bl sl) (h : okS G I N no = false) :
    Calls Try.prog 16 #[.agg #[.int .i64 G, .int .i64 I, .int .i64 N], headV no bl sl] w fun e w' => e = .returned (.bool false) ∧ Below w.heap.size w w' := by
  have HO := Aside0.mk h
  have HM := Aside0.mk hm
  have HZ := Aside0.mk zeros_maps
  clear h hm
  have HB := Aside0.mk (Below.refl w.heap.size w)
  go_enter Try.func16, Try.ntmps16
  go_wp2_with (first
    | ((with_reducible refine gate_dst (N := 2) rfl ?_); go_loud (refine box_event ?hg (N := 2) ?hd (cs := ([.int .i64 G, .int .i64 I, .int .i64 N]).toArray) (t := 23) ?hr ?_; (case hd => rfl); (case hg => rfl); (case hr => first | kernel_rfl | (go_simp; done) | (go_simp; rfl)); intro g2 hg w_ hx hb; have GE_HG := Aside0.mk (show w.heap.size ≤ g2 by have := HB.out.size; omega); clear hg; replace HB := Aside0.mk (below_step HB.out hb); clear hb; have HG : Aside0 (w_.heap[g2]? = some (.cells #[.int .i64 G, .int .i64 I, .int .i64 N] 23 (0, 0))) := ⟨hx⟩; clear hx; have cHG_0 := c3_0 HG.out; have cHG_1 := c3_1 HG.out; have cHG_2 := c3_2 HG.out))
    | ((with_reducible refine gate_dst (N := 3) rfl ?_); go_loud (refine box_event ?hg (N := 3) ?hd (cs := (headC no bl sl).toArray) (t := 28) ?hr ?_; (case hd => rfl); (case hg => rfl); (case hr => kernel_rfl); intro g3 hg w_ hx hb; have NE_HG_HX := Aside0.mk (new_ne HG.out hg); have GE_HX := Aside0.mk (show w.heap.size ≤ g3 by have := HB.out.size; omega); clear hg; clear cHG_0 cHG_1 cHG_2; replace HB := Aside0.mk (below_step HB.out hb); replace HG := Aside0.mk (blk_below HG.out hb); clear hb; have HX : Aside0 (HeadAt w_ g3 no bl sl) := ⟨hx⟩; clear hx; have cHG_0 := c3_0 HG.out; have cHG_1 := c3_1 HG.out; have cHG_2 := c3_2 HG.out; have cHX_n := cell_no HX.out))
    | (go_at_call 13; go_loud (with_reducible refine (fresh_no G I N no _ HO.out).mono ?_; rintro e w_ ⟨rfl, hb⟩; clear cHG_0 cHG_1 cHG_2 cHX_n; replace HB := Aside0.mk (below_step HB.out hb); replace HG := Aside0.mk (blk_below HG.out hb); replace HX := Aside0.mk (HeadAt.below HX.out hb); clear hb; have cHG_0 := c3_0 HG.out; have cHG_1 := c3_1 HG.out; have cHG_2 := c3_2 HG.out; have cHX_n := cell_no HX.out))
    | ((with_reducible refine gate_dst (N := 5) rfl ?_); go_loud (refine box_event ?hg (N := 5) ?hd (cs := (headC 0 (zeros 16) (zeros 8)).toArray) (t := 28) ?hr ?_; (case hd => rfl); (case hg => rfl); (case hr => kernel_rfl); intro g5 hg w_ hx hb; have NE_HG_HZ5 := Aside0.mk (new_ne HG.out hg); have NE_HX_HZ5 := Aside0.mk (new_ne HX.out hg); have GE_HZ5 := Aside0.mk (show w.heap.size ≤ g5 by have := HB.out.size; omega); clear hg; clear cHG_0 cHG_1 cHG_2 cHX_n; replace HB := Aside0.mk (below_step HB.out hb); replace HG := Aside0.mk (blk_below HG.out hb); replace HX := Aside0.mk (HeadAt.below HX.out hb); clear hb; have HZ5 : Aside0 (HeadAt w_ g5 0 (zeros 16) (zeros 8)) := ⟨hx⟩; clear hx; have cHG_0 := c3_0 HG.out; have cHG_1 := c3_1 HG.out; have cHG_2 := c3_2 HG.out; have cHX_n := cell_no HX.out; have cHZ5_n := cell_no HZ5.out))
    | ((refine gate_store (t := 28) (p := 5) rfl ?_); go_loud (refine store_all (P := Try.prog) (t := 28) (p := 5) (v := .tmp 18) ?hgd ?hN ?ho g5 (headC 0 (zeros 16) (zeros 8)) ?hx ?hy _ _ HZ5.out (hi_head HZ.out) (hold_head HZ.out HZ.out) (head_one _ _ _) w.heap.size w HB.out GE_HZ5.out ?_; (case hgd => rfl); (case hN => rfl); (case ho => rfl); (case hx => rfl); (case hy => rfl); intro w_ hx_ ho_ hb_; clear cHG_0 cHG_1 cHG_2 cHX_n cHZ5_n; replace HG := Aside0.mk ((ho_ _ NE_HG_HZ5.out).trans HG.out); replace HX := Aside0.mk (HeadAt.other HX.out ho_ NE_HX_HZ5.out); clear HB; have HB := Aside0.mk hb_; clear hb_; clear HZ5; have HZ5 : Aside0 (HeadAt w_ g5 0 (zeros 16) (zeros 8)) := ⟨hx_⟩; clear hx_ ho_; have cHG_0 := c3_0 HG.out; have cHG_1 := c3_1 HG.out; have cHG_2 := c3_2 HG.out; have cHX_n := cell_no HX.out; have cHZ5_n := cell_no HZ5.out)))
  go_ret
  exact ⟨rfl, HB.out⟩
def group_Right.T15 : Bool × List (List Nat × List Nat) := (true, [([], []), ([0], [0]), ([], []), ([2], [2]), ([1, 3], [1, 3]), ([], []), ([5], [5]), ([6, 4], [6]), ([4, 7], [4, 7]), ([8, 7], [8]), ([9], [9]), ([10, 9], [9, 10]), ([9], [9]), ([12, 9], [9, 12]), ([11, 13, 9, 9], [9, 11, 13]), ([9], [9]), ([15, 9], [9, 15]), ([16, 14, 9], [9, 16]), ([14, 17, 9], [9, 14, 17]), ([9, 18], [9, 18]), ([19, 17, 0, 1, 2, 3, 4, 5, 6, 7, 8, 9, 10, 11, 12, 13, 14, 15, 16, 17, 18, 19], [19])])
def group_Right.B15 : List Nat := [0, 1, 0, 4, 15, 0, 32, 127, 255, 511, 1023, 2047, 1023, 5119, 16383, 1023, 33791, 131071, 262143, 524287, 1048575]
theorem group_Right.tab15 : rtab .any (opsOf Try.f16 15) = group_Right.T15 := by kernel_rfl
theorem group_Right.bits15 : waitsOk group_Right.T15.2 group_Right.B15 = true := by kernel_rfl
set_option maxHeartbeats 16000000 in
set_option maxRecDepth 100000 in
theorem right_good (G I N no : Int) (bl sl : List Int) (w : World) (hm : Maps bl sl) (hib : Bits.isBytes bl) (his : Bits.isBytes sl) (h : okS G I N no = true) :
    Calls Try.prog 16 #[.agg #[.int .i64 G, .int .i64 I, .int .i64 N], headV no bl sl] w fun e w' => e = .returned (.bool (rightP G I N no bl sl)) ∧ Below w.heap.size w w' := by
  have HO := Aside0.mk h
  have HM := Aside0.mk hm
  have HZ := Aside0.mk zeros_maps
  have HIB := Aside0.mk hib
  have HIS := Aside0.mk his
  obtain ⟨fb, hfb⟩ : ∃ fb, fb = onesL (1 + I / 4).toNat := ⟨_, rfl⟩
  obtain ⟨fs, hfs⟩ : ∃ fs, fs = slots0 no := ⟨_, rfl⟩
  have hMF : Maps fb fs := by rw [hfb, hfs]; exact fresh_maps _ _
  have HMF := Aside0.mk hMF
  obtain ⟨b1, hb1⟩ : ∃ b, b = (cntZ bl G == cntZ bl 128) := ⟨_, rfl⟩
  obtain ⟨b2, hb2⟩ : ∃ b, b = (cntZ sl I == cntZ sl 64) := ⟨_, rfl⟩
  obtain ⟨d1, hd1⟩ : ∃ b, b = decide (orUp 16 bl fb 16 = bl) := ⟨_, rfl⟩
  obtain ⟨d2, hd2⟩ : ∃ b, b = decide (orUp 8 sl fs 8 = sl) := ⟨_, rfl⟩
  have HR : Aside0 (rightP G I N no bl sl = (d1 && (d2 && (b1 && b2)))) := ⟨by unfold rightP; rw [h, Bool.true_and, ← hfb, ← hfs, ← hb1, ← hb2, ← hd1, ← hd2]⟩
  have HFB := Aside0.mk hfb
  have HFS := Aside0.mk hfs
  have HD1 := Aside0.mk hd1.symm
  have HD2 := Aside0.mk hd2.symm
  have hb1' := hb1.symm
  have hb2' := hb2.symm
  have hbn := built_no no
  have FY := Aside0.mk (fun (w : World) => fresh_yes G I N no w h)
  rw [← hfb, ← hfs] at FY
  clear h hm hib his hMF hfb hfs hd1 hd2 hb1 hb2
  have HB := Aside0.mk (Below.refl w.heap.size w)
  go_enter Try.func16, Try.ntmps16
  go_wp2_with (first
    | ((with_reducible refine gate_dst (N := 2) rfl ?_); go_loud (refine box_event ?hg (N := 2) ?hd (cs := ([.int .i64 G, .int .i64 I, .int .i64 N]).toArray) (t := 23) ?hr ?_; (case hd => rfl); (case hg => rfl); (case hr => first | kernel_rfl | (go_simp; done) | (go_simp; rfl)); intro g2 hg w_ hx hb; have GE_HG := Aside0.mk (show w.heap.size ≤ g2 by have := HB.out.size; omega); clear hg; replace HB := Aside0.mk (below_step HB.out hb); clear hb; have HG : Aside0 (w_.heap[g2]? = some (.cells #[.int .i64 G, .int .i64 I, .int .i64 N] 23 (0, 0))) := ⟨hx⟩; clear hx; have cHG_0 := c3_0 HG.out; have cHG_1 := c3_1 HG.out; have cHG_2 := c3_2 HG.out))
    | ((with_reducible refine gate_dst (N := 3) rfl ?_); go_loud (refine box_event ?hg (N := 3) ?hd (cs := (headC no bl sl).toArray) (t := 28) ?hr ?_; (case hd => rfl); (case hg => rfl); (case hr => kernel_rfl); intro g3 hg w_ hx hb; have NE_HG_HX := Aside0.mk (new_ne HG.out hg); have GE_HX := Aside0.mk (show w.heap.size ≤ g3 by have := HB.out.size; omega); clear hg; clear cHG_0 cHG_1 cHG_2; replace HB := Aside0.mk (below_step HB.out hb); replace HG := Aside0.mk (blk_below HG.out hb); clear hb; have HX : Aside0 (HeadAt w_ g3 no bl sl) := ⟨hx⟩; clear hx; have cHG_0 := c3_0 HG.out; have cHG_1 := c3_1 HG.out; have cHG_2 := c3_2 HG.out; have cHX_n := cell_no HX.out))
    | (go_at_call 13; go_loud (with_reducible refine (FY.out _).mono ?_; rintro e w_ ⟨rfl, hb⟩; clear cHG_0 cHG_1 cHG_2 cHX_n; replace HB := Aside0.mk (below_step HB.out hb); replace HG := Aside0.mk (blk_below HG.out hb); replace HX := Aside0.mk (HeadAt.below HX.out hb); clear hb; have cHG_0 := c3_0 HG.out; have cHG_1 := c3_1 HG.out; have cHG_2 := c3_2 HG.out; have cHX_n := cell_no HX.out))
    | ((with_reducible refine gate_dst (N := 5) rfl ?_); go_loud (refine box_event ?hg (N := 5) ?hd (cs := (headC 0 (zeros 16) (zeros 8)).toArray) (t := 28) ?hr ?_; (case hd => rfl); (case hg => rfl); (case hr => kernel_rfl); intro g5 hg w_ hx hb; have NE_HG_HF := Aside0.mk (new_ne HG.out hg); have NE_HX_HF := Aside0.mk (new_ne HX.out hg); have GE_HF := Aside0.mk (show w.heap.size ≤ g5 by have := HB.out.size; omega); clear hg; clear cHG_0 cHG_1 cHG_2 cHX_n; replace HB := Aside0.mk (below_step HB.out hb); replace HG := Aside0.mk (blk_below HG.out hb); replace HX := Aside0.mk (HeadAt.below HX.out hb); clear hb; have HF : Aside0 (HeadAt w_ g5 0 (zeros 16) (zeros 8)) := ⟨hx⟩; clear hx; have cHG_0 := c3_0 HG.out; have cHG_1 := c3_1 HG.out; have cHG_2 := c3_2 HG.out; have cHX_n := cell_no HX.out; have cHF_n := cell_no HF.out))
    | ((refine gate_store (t := 28) (p := 5) rfl ?_); go_loud (refine store_all (P := Try.prog) (t := 28) (p := 5) (v := .tmp 18) ?hgd ?hN ?ho g5 (headC no fb fs) ?hx ?hy _ _ HF.out (hi_head HMF.out) (hold_head HZ.out HMF.out) (head_one _ _ _) w.heap.size w HB.out GE_HF.out ?_; (case hgd => rfl); (case hN => rfl); (case ho => rfl); (case hx => rfl); (case hy => rfl); intro w_ hx_ ho_ hb_; clear cHG_0 cHG_1 cHG_2 cHX_n cHF_n; replace HG := Aside0.mk ((ho_ _ NE_HG_HF.out).trans HG.out); replace HX := Aside0.mk (HeadAt.other HX.out ho_ NE_HX_HF.out); clear HB; have HB := Aside0.mk hb_; clear hb_; clear HF; have HF : Aside0 (HeadAt w_ g5 no fb fs) := ⟨hx_⟩; clear hx_ ho_; have cHG_0 := c3_0 HG.out; have cHG_1 := c3_1 HG.out; have cHG_2 := c3_2 HG.out; have cHX_n := cell_no HX.out; have cHF_n := cell_no HF.out))
    | ((with_reducible refine gate_dst (N := 7) rfl ?_); go_loud (refine box_event ?hg (N := 7) ?hd (cs := (headC 0 (zeros 16) (zeros 8)).toArray) (t := 28) ?hr ?_; (case hd => rfl); (case hg => rfl); (case hr => kernel_rfl); intro g7 hg w_ hx hb; have NE_HG_HA := Aside0.mk (new_ne HG.out hg); have NE_HX_HA := Aside0.mk (new_ne HX.out hg); have NE_HF_HA := Aside0.mk (new_ne HF.out hg); have GE_HA := Aside0.mk (show w.heap.size ≤ g7 by have := HB.out.size; omega); clear hg; clear cHG_0 cHG_1 cHG_2 cHX_n cHF_n; replace HB := Aside0.mk (below_step HB.out hb); replace HG := Aside0.mk (blk_below HG.out hb); replace HX := Aside0.mk (HeadAt.below HX.out hb); replace HF := Aside0.mk (HeadAt.below HF.out hb); clear hb; have HA : Aside0 (HeadAt w_ g7 0 (zeros 16) (zeros 8)) := ⟨hx⟩; clear hx; have cHG_0 := c3_0 HG.out; have cHG_1 := c3_1 HG.out; have cHG_2 := c3_2 HG.out; have cHX_n := cell_no HX.out; have cHF_n := cell_no HF.out; have cHA_n := cell_no HA.out))
    | ((refine gate_store (t := 28) (p := 7) rfl ?_); go_loud (refine store_all (P := Try.prog) (t := 28) (p := 7) (v := .tmp 24) ?hgd ?hN ?ho g7 (headC no (zeros 16) (zeros 8)) ?hx ?hy _ _ HA.out (hi_head HZ.out) (hold_head HZ.out HZ.out) (head_one _ _ _) w.heap.size w HB.out GE_HA.out ?_; (case hgd => rfl); (case hN => rfl); (case ho => rfl); (case hx => rfl); (case hy => rfl); intro w_ hx_ ho_ hb_; clear cHG_0 cHG_1 cHG_2 cHX_n cHF_n cHA_n; replace HG := Aside0.mk ((ho_ _ NE_HG_HA.out).trans HG.out); replace HX := Aside0.mk (HeadAt.other HX.out ho_ NE_HX_HA.out); replace HF := Aside0.mk (HeadAt.other HF.out ho_ NE_HF_HA.out); clear HB; have HB := Aside0.mk hb_; clear hb_; clear HA; have HA : Aside0 (HeadAt w_ g7 no (zeros 16) (zeros 8)) := ⟨hx_⟩; clear hx_ ho_; have cHG_0 := c3_0 HG.out; have cHG_1 := c3_1 HG.out; have cHG_2 := c3_2 HG.out; have cHX_n := cell_no HX.out; have cHF_n := cell_no HF.out; have cHA_n := cell_no HA.out))
    | ((with_reducible refine gate_dst (N := 26) rfl ?_); go_loud (refine wl_bl ?hw (.tmp 25) ?ho ?hx HX.out HM.out ?_; (case hw => first | rfl | (go_simp; done)); (case ho => rfl); (case hx => rfl))))
  clear cHG_0 cHG_1 cHG_2 cHX_n cHF_n cHA_n
  go_loopw [27] (fun v27 wr => ∃ i : Nat, i ≤ 16 ∧ v27 = .int .i64 i ∧ Aside0 (Below w.heap.size w wr) ∧ Aside0 (wr.heap[g2]? = some (.cells #[.int .i64 G, .int .i64 I, .int .i64 N] 23 (0, 0))) ∧ Aside0 (HeadAt wr g3 no bl sl) ∧ Aside0 (HeadAt wr g5 no fb fs) ∧ Aside0 (HeadAt wr g7 no (orUp 16 bl fb i) (zeros 8))) (fun v27 _ => 16 - (intOf v27).toNat)
  case atStart => exact ⟨0, by omega, rfl, HB, HG, HX, HF, (by rw [orUp_zero]; exact HA)⟩
  case round =>
    clear HB HG HX HF HA
    obtain ⟨i, hi, rfl, HB, HG, HX, HF, HA⟩ := hrel
    have HMA : Aside0 (Maps (orUp 16 bl fb i) (zeros 8)) := ⟨⟨orUp_length _ _ _ _, rfl⟩⟩
    have HMA2 : Aside0 (Maps (orUp 16 bl fb (i + 1)) (zeros 8)) := ⟨⟨orUp_length _ _ _ _, rfl⟩⟩
    by_cases hlt : i < 16
    · have cHG_0 := c3_0 HG.out; have cHG_1 := c3_1 HG.out; have cHG_2 := c3_2 HG.out; have cHX_n := cell_no HX.out; have cHF_n := cell_no HF.out; have cHA_n := cell_no HA.out
      have PUT : Aside0 (HeadAt (wr.setCell ⟨g7, 1 + i, none⟩ (.int .u8 (bits .or .u8 (rd bl (i : Int)) (rd fb (i : Int))))) g7 no (orUp 16 bl fb (i + 1)) (zeros 8)) := ⟨by
        have h := put_bl HA.out HMA.out i hlt (bits .or .u8 (rd bl (i : Int)) (rd fb (i : Int)))
        rw [orUp_succ 16 bl fb i hlt] at h
        exact h⟩
      have hix := index_bl HM.out.1 i hlt
      have cf := cell_bl HF.out HMF.out i hlt
      have ca := cell_bl HA.out HMA.out i hlt
      have fa := blk_frozen HA.out (1 + i)
      go_wp2_with (first
          | ((refine gate_store (t := 5) (p := 39) rfl ?_); go_loud (refine store_event (t := 5) (p := 39) (v := .tmp 37) (w1 := wr.setCell ⟨g7, (1 + i), none⟩ (.int .u8 (bits .or .u8 (rd bl (i : Int)) (rd fb (i : Int))))) ?hg ?ho ?hn ?hr ?_; (case ho => rfl); (case hg => rfl); (case hn => rfl); (case hr => first | (go_simp; done) | (go_simp; rfl)); intro w_ hw_; clear cHG_0 cHG_1 cHG_2 cHX_n cHF_n cHA_n; have yHB := below_set (j := (1 + i)) (v := .int .u8 (bits .or .u8 (rd bl (i : Int)) (rd fb (i : Int)))) HB.out GE_HA.out; have yHG := blk_far (p := ⟨g7, (1 + i), none⟩) HG.out NE_HG_HA.out (.int .u8 (bits .or .u8 (rd bl (i : Int)) (rd fb (i : Int)))); have yHX := blk_far (p := ⟨g7, (1 + i), none⟩) HX.out NE_HX_HA.out (.int .u8 (bits .or .u8 (rd bl (i : Int)) (rd fb (i : Int)))); have yHF := blk_far (p := ⟨g7, (1 + i), none⟩) HF.out NE_HF_HA.out (.int .u8 (bits .or .u8 (rd bl (i : Int)) (rd fb (i : Int)))); have yHA := PUT.out; rw [← hw_] at yHB yHG yHX yHF yHA; clear hw_ HB HG HX HF HA; have HB : Aside0 (Below w.heap.size w w_) := ⟨yHB⟩; have HG : Aside0 (w_.heap[g2]? = some (.cells #[.int .i64 G, .int .i64 I, .int .i64 N] 23 (0, 0))) := ⟨yHG⟩; have HX : Aside0 (HeadAt w_ g3 no bl sl) := ⟨yHX⟩; have HF : Aside0 (HeadAt w_ g5 no fb fs) := ⟨yHF⟩; have HA : Aside0 (HeadAt w_ g7 no (orUp 16 bl fb (i + 1)) (zeros 8)) := ⟨yHA⟩; clear yHB yHG yHX yHF yHA; have cHG_0 := c3_0 HG.out; have cHG_1 := c3_1 HG.out; have cHG_2 := c3_2 HG.out; have cHX_n := cell_no HX.out; have cHF_n := cell_no HF.out; have cHA_n := cell_no HA.out)))
      go_roundw
      case rel => exact ⟨i + 1, by omega, by go_num, HB, HG, HX, HF, HA⟩
      case measure => simp [intOf]; omega
    · obtain rfl : i = 16 := by omega
      have cHG_0 := c3_0 HG.out; have cHG_1 := c3_1 HG.out; have cHG_2 := c3_2 HG.out; have cHX_n := cell_no HX.out; have cHF_n := cell_no HF.out; have cHA_n := cell_no HA.out
      go_wp2_with (first
          | ((with_reducible refine gate_dst (N := 42) rfl ?_); go_loud (refine wl_sl ?hw (.tmp 41) ?ho ?hx HX.out HM.out ?_; (case hw => first | rfl | (go_simp; done)); (case ho => rfl); (case hx => rfl))))
      clear cHG_0 cHG_1 cHG_2 cHX_n cHF_n cHA_n
      go_loopw [43] (fun v43 wr => ∃ i : Nat, i ≤ 8 ∧ v43 = .int .i64 i ∧ Aside0 (Below w.heap.size w wr) ∧ Aside0 (wr.heap[g2]? = some (.cells #[.int .i64 G, .int .i64 I, .int .i64 N] 23 (0, 0))) ∧ Aside0 (HeadAt wr g3 no bl sl) ∧ Aside0 (HeadAt wr g5 no fb fs) ∧ Aside0 (HeadAt wr g7 no (orUp 16 bl fb 16) (orUp 8 sl fs i))) (fun v43 _ => 8 - (intOf v43).toNat)
      case atStart => exact ⟨0, by omega, rfl, HB, HG, HX, HF, (by rw [orUp_zero]; exact HA)⟩
      case round =>
        clear HB HG HX HF HA HMA HMA2
        obtain ⟨i, hi, rfl, HB, HG, HX, HF, HA⟩ := hrel
        have HMA : Aside0 (Maps (orUp 16 bl fb 16) (orUp 8 sl fs i)) := ⟨⟨orUp_length _ _ _ _, orUp_length _ _ _ _⟩⟩
        have HMA2 : Aside0 (Maps (orUp 16 bl fb 16) (orUp 8 sl fs (i + 1))) := ⟨⟨orUp_length _ _ _ _, orUp_length _ _ _ _⟩⟩
        by_cases hlt : i < 8
        · have cHG_0 := c3_0 HG.out; have cHG_1 := c3_1 HG.out; have cHG_2 := c3_2 HG.out; have cHX_n := cell_no HX.out; have cHF_n := cell_no HF.out; have cHA_n := cell_no HA.out
          have PUT : Aside0 (HeadAt (wr.setCell ⟨g7, 17 + i, none⟩ (.int .u8 (bits .or .u8 (rd sl (i : Int)) (rd fs (i : Int))))) g7 no (orUp 16 bl fb 16) (orUp 8 sl fs (i + 1))) := ⟨by
            have h := put_sl HA.out HMA.out i hlt (bits .or .u8 (rd sl (i : Int)) (rd fs (i : Int)))
            rw [orUp_succ 8 sl fs i hlt] at h
            exact h⟩
          have hix := index_sl HM.out.2 i hlt
          have cf := cell_sl HF.out HMF.out i hlt
          have ca := cell_sl HA.out HMA.out i hlt
          have fa := blk_frozen HA.out (17 + i)
          go_wp2_with (first
              | ((refine gate_store (t := 5) (p := 55) rfl ?_); go_loud (refine store_event (t := 5) (p := 55) (v := .tmp 53) (w1 := wr.setCell ⟨g7, (17 + i), none⟩ (.int .u8 (bits .or .u8 (rd sl (i : Int)) (rd fs (i : Int))))) ?hg ?ho ?hn ?hr ?_; (case ho => rfl); (case hg => rfl); (case hn => rfl); (case hr => first | (go_simp; done) | (go_simp; rfl)); intro w_ hw_; clear cHG_0 cHG_1 cHG_2 cHX_n cHF_n cHA_n; have yHB := below_set (j := (17 + i)) (v := .int .u8 (bits .or .u8 (rd sl (i : Int)) (rd fs (i : Int)))) HB.out GE_HA.out; have yHG := blk_far (p := ⟨g7, (17 + i), none⟩) HG.out NE_HG_HA.out (.int .u8 (bits .or .u8 (rd sl (i : Int)) (rd fs (i : Int)))); have yHX := blk_far (p := ⟨g7, (17 + i), none⟩) HX.out NE_HX_HA.out (.int .u8 (bits .or .u8 (rd sl (i : Int)) (rd fs (i : Int)))); have yHF := blk_far (p := ⟨g7, (17 + i), none⟩) HF.out NE_HF_HA.out (.int .u8 (bits .or .u8 (rd sl (i : Int)) (rd fs (i : Int)))); have yHA := PUT.out; rw [← hw_] at yHB yHG yHX yHF yHA; clear hw_ HB HG HX HF HA; have HB : Aside0 (Below w.heap.size w w_) := ⟨yHB⟩; have HG : Aside0 (w_.heap[g2]? = some (.cells #[.int .i64 G, .int .i64 I, .int .i64 N] 23 (0, 0))) := ⟨yHG⟩; have HX : Aside0 (HeadAt w_ g3 no bl sl) := ⟨yHX⟩; have HF : Aside0 (HeadAt w_ g5 no fb fs) := ⟨yHF⟩; have HA : Aside0 (HeadAt w_ g7 no (orUp 16 bl fb 16) (orUp 8 sl fs (i + 1))) := ⟨yHA⟩; clear yHB yHG yHX yHF yHA; have cHG_0 := c3_0 HG.out; have cHG_1 := c3_1 HG.out; have cHG_2 := c3_2 HG.out; have cHX_n := cell_no HX.out; have cHF_n := cell_no HF.out; have cHA_n := cell_no HA.out)))
          go_roundw
          case rel => exact ⟨i + 1, by omega, by go_num, HB, HG, HX, HF, HA⟩
          case measure => simp [intOf]; omega
        · obtain rfl : i = 8 := by omega
          have cHG_0 := c3_0 HG.out; have cHG_1 := c3_1 HG.out; have cHG_2 := c3_2 HG.out; have cHX_n := cell_no HX.out; have cHF_n := cell_no HF.out; have cHA_n := cell_no HA.out
          go_wp2
          rcases b1 with _ | _
          · skip
            clear cHG_0 cHG_1 cHG_2 cHX_n cHF_n cHA_n
            replace HB := Aside0.mk (below_drew HB.out)
            replace HG := Aside0.mk (blk_drew HG.out)
            replace HX := Aside0.mk (HeadAt.drew HX.out)
            replace HF := Aside0.mk (HeadAt.drew HF.out)
            replace HA := Aside0.mk (HeadAt.drew HA.out)
            refine q_start (n := 21) (S := fun (_ : Unit) w_ => Below w.heap.size w w_ ∧ w_.heap[g2]? = some (.cells #[.int .i64 G, .int .i64 I, .int .i64 N] 23 (0, 0)) ∧ HeadAt w_ g3 no bl sl ∧ HeadAt w_ g5 no fb fs ∧ HeadAt w_ g7 no (orUp 16 bl fb 16) (orUp 8 sl fs 8)) (ds := []) () #[false, false, false, false, false, false, false, false, false, false, false, false, false, false, false, false, false, false, false, false, false] (by kernel_rfl) rfl rfl ⟨HB.out, HG.out, HX.out, HF.out, HA.out⟩ ?_
            clear HB HG HX HF HA
            refine q_tab group_Right.tab15 group_Right.bits15 (fun HT_ HW_ => ?_)
            refine q_take (i := 0) (N := some 57) (v := ?_) (a' := ?_) #[true, false, false, false, false, false, false, false, false, false, false, false, false, false, false, false, false, false, false, false, false] rfl rfl (take_ofW HT_.out HW_.out (by kernel_rfl)) (by decide) (quiet_val (by rfl) ?_) ?_ ?_
            rotate_left
            · intro _ w_ _
              go_simp
              with_reducible rfl
            rotate_left
            · simp only [Act.put, List.setIfInBounds_toArray, List.set_cons_zero, List.set_cons_succ, i64_w, i32_w, List.getElem_toArray, List.getElem_cons_succ, List.getElem_cons_zero]
              rfl
            refine q_take (i := 1) (N := some 58) (v := ?_) (a' := ?_) #[true, true, false, false, false, false, false, false, false, false, false, false, false, false, false, false, false, false, false, false, false] rfl rfl (take_ofW HT_.out HW_.out (by kernel_rfl)) (by decide) (quiet_val (by rfl) ?_) ?_ ?_
            rotate_left
            · intro _ w_ _
              go_simp
              with_reducible rfl
            rotate_left
            · simp only [Act.put, List.setIfInBounds_toArray, List.set_cons_zero, List.set_cons_succ, i64_w, i32_w, List.getElem_toArray, List.getElem_cons_succ, List.getElem_cons_zero]
              rfl
            refine q_take (i := 2) (N := some 59) (v := ?_) (a' := ?_) #[true, true, true, false, false, false, false, false, false, false, false, false, false, false, false, false, false, false, false, false, false] rfl rfl (take_ofW HT_.out HW_.out (by kernel_rfl)) (by decide) (quiet_val (by rfl) ?_) ?_ ?_
            rotate_left
            · intro _ w_ _
              go_simp
              with_reducible rfl
            rotate_left
            · simp only [Act.put, List.setIfInBounds_toArray, List.set_cons_zero, List.set_cons_succ, i64_w, i32_w, List.getElem_toArray, List.getElem_cons_succ, List.getElem_cons_zero]
              rfl
            refine q_take (i := 3) (N := some 60) (v := ?_) (a' := ?_) #[true, true, true, true, false, false, false, false, false, false, false, false, false, false, false, false, false, false, false, false, false] rfl rfl (take_ofW HT_.out HW_.out (by kernel_rfl)) (by decide) (quiet_val (by rfl) ?_) ?_ ?_
            rotate_left
            · rintro _ w_ ⟨hHB, hHG, hHX, hHF, hHA⟩
              have HB := Aside0.mk hHB
              have HG := Aside0.mk hHG
              have HX := Aside0.mk hHX
              have HF := Aside0.mk hHF
              have HA := Aside0.mk hHA
              clear hHB hHG hHX hHF hHA
              have cHG_0 := c3_0 HG.out
              have cHG_1 := c3_1 HG.out
              have cHG_2 := c3_2 HG.out
              have cHX_n := cell_no HX.out
              have cHF_n := cell_no HF.out
              have cHA_n := cell_no HA.out
              go_simp
              with_reducible rfl
            rotate_left
            · simp only [Act.put, List.setIfInBounds_toArray, List.set_cons_zero, List.set_cons_succ, i64_w, i32_w, List.getElem_toArray, List.getElem_cons_succ, List.getElem_cons_zero]
              rfl
            refine q_take (i := 4) (N := some 61) (v := .int .i64 (cntZ bl G)) (a' := ?_) #[true, true, true, true, true, false, false, false, false, false, false, false, false, false, false, false, false, false, false, false, false] rfl rfl (take_ofW HT_.out HW_.out (by kernel_rfl)) (by decide) (quiet_call Try.func41 (by kernel_rfl) rfl #[.slice (some ⟨g3, 1, none⟩) 16 16, .int .i64 G] (by rfl) rfl (by (try simp only [List.map_toArray, List.map_cons, List.map_nil]); first | done | rfl) ?_) ?_ ?_
            · rintro _ w_ ⟨hHB, hHG, hHX, hHF, hHA⟩
              have HB := Aside0.mk hHB
              have HG := Aside0.mk hHG
              have HX := Aside0.mk hHX
              have HF := Aside0.mk hHF
              have HA := Aside0.mk hHA
              with_reducible refine (count_bl HX.out HM.out HIB.out G).mono ?_
              rintro e w_2 ⟨rfl, hb⟩
              exact ⟨rfl, ⟨below_step HB.out hb, blk_below HG.out hb, HeadAt.below HX.out hb, HeadAt.below HF.out hb, HeadAt.below HA.out hb⟩⟩
            rotate_left
            · simp only [Act.put, List.setIfInBounds_toArray, List.set_cons_zero, List.set_cons_succ, i64_w, i32_w, List.getElem_toArray, List.getElem_cons_succ, List.getElem_cons_zero]
              rfl
            refine q_take (i := 5) (N := some 62) (v := ?_) (a' := ?_) #[true, true, true, true, true, true, false, false, false, false, false, false, false, false, false, false, false, false, false, false, false] rfl rfl (take_ofW HT_.out HW_.out (by kernel_rfl)) (by decide) (quiet_val (by rfl) ?_) ?_ ?_
            rotate_left
            · intro _ w_ _
              go_simp
              with_reducible rfl
            rotate_left
            · simp only [Act.put, List.setIfInBounds_toArray, List.set_cons_zero, List.set_cons_succ, i64_w, i32_w, List.getElem_toArray, List.getElem_cons_succ, List.getElem_cons_zero]
              rfl
            refine q_take (i := 6) (N := some 63) (v := ?_) (a' := ?_) #[true, true, true, true, true, true, true, false, false, false, false, false, false, false, false, false, false, false, false, false, false] rfl rfl (take_ofW HT_.out HW_.out (by kernel_rfl)) (by decide) (quiet_val (by rfl) ?_) ?_ ?_
            rotate_left
            · intro _ w_ _
              go_simp
              with_reducible rfl
            rotate_left
            · simp only [Act.put, List.setIfInBounds_toArray, List.set_cons_zero, List.set_cons_succ, i64_w, i32_w, List.getElem_toArray, List.getElem_cons_succ, List.getElem_cons_zero]
              rfl
            refine q_take (i := 7) (N := some 64) (v := .int .i64 (cntZ bl 128)) (a' := ?_) #[true, true, true, true, true, true, true, true, false, false, false, false, false, false, false, false, false, false, false, false, false] rfl rfl (take_ofW HT_.out HW_.out (by kernel_rfl)) (by decide) (quiet_call Try.func41 (by kernel_rfl) rfl #[.slice (some ⟨g3, 1, none⟩) 16 16, .int .i64 128] (by rfl) rfl (by (try simp only [List.map_toArray, List.map_cons, List.map_nil]); first | done | rfl) ?_) ?_ ?_
            · rintro _ w_ ⟨hHB, hHG, hHX, hHF, hHA⟩
              have HB := Aside0.mk hHB
              have HG := Aside0.mk hHG
              have HX := Aside0.mk hHX
              have HF := Aside0.mk hHF
              have HA := Aside0.mk hHA
              with_reducible refine (count_bl HX.out HM.out HIB.out 128).mono ?_
              rintro e w_2 ⟨rfl, hb⟩
              exact ⟨rfl, ⟨below_step HB.out hb, blk_below HG.out hb, HeadAt.below HX.out hb, HeadAt.below HF.out hb, HeadAt.below HA.out hb⟩⟩
            rotate_left
            · simp only [Act.put, List.setIfInBounds_toArray, List.set_cons_zero, List.set_cons_succ, i64_w, i32_w, List.getElem_toArray, List.getElem_cons_succ, List.getElem_cons_zero]
              rfl
            refine q_take (i := 8) (N := some 65) (v := ?_) (a' := ?_) #[true, true, true, true, true, true, true, true, true, false, false, false, false, false, false, false, false, false, false, false, false] rfl rfl (take_ofW HT_.out HW_.out (by kernel_rfl)) (by decide) (quiet_val (by rfl) ?_) ?_ ?_
            rotate_left
            · intro _ w_ _
              go_simp
              with_reducible rfl
            rotate_left
            · simp only [Act.put, List.setIfInBounds_toArray, List.set_cons_zero, List.set_cons_succ, i64_w, i32_w, List.getElem_toArray, List.getElem_cons_succ, List.getElem_cons_zero]
              rfl
            refine q_take (i := 9) (N := some 66) (v := ?_) (a' := ?_) #[true, true, true, true, true, true, true, true, true, true, false, false, false, false, false, false, false, false, false, false, false] rfl rfl (take_ofW HT_.out HW_.out (by kernel_rfl)) (by decide) (quiet_val (by rfl) ?_) ?_ ?_
            rotate_left
            · intro _ w_ _
              go_simp
              with_reducible rfl
            rotate_left
            · simp only [Act.put, List.setIfInBounds_toArray, List.set_cons_zero, List.set_cons_succ, i64_w, i32_w, List.getElem_toArray, List.getElem_cons_succ, List.getElem_cons_zero]
              rfl
            refine q_take (i := 10) (N := some 67) (v := _) (a' := ?_) #[true, true, true, true, true, true, true, true, true, true, true, false, false, false, false, false, false, false, false, false, false] rfl rfl (take_ofW HT_.out HW_.out (by kernel_rfl)) (by decide) (quiet_off (by rfl)) ?_ ?_
            rotate_left
            · simp only [Act.put, List.setIfInBounds_toArray, List.set_cons_zero, List.set_cons_succ, i64_w, i32_w, List.getElem_toArray, List.getElem_cons_succ, List.getElem_cons_zero]
              rfl
            refine q_take (i := 11) (N := some 68) (v := _) (a' := ?_) #[true, true, true, true, true, true, true, true, true, true, true, true, false, false, false, false, false, false, false, false, false] rfl rfl (take_ofW HT_.out HW_.out (by kernel_rfl)) (by decide) (quiet_off (by rfl)) ?_ ?_
            rotate_left
            · simp only [Act.put, List.setIfInBounds_toArray, List.set_cons_zero, List.set_cons_succ, i64_w, i32_w, List.getElem_toArray, List.getElem_cons_succ, List.getElem_cons_zero]
              rfl
            refine q_take (i := 12) (N := some 69) (v := _) (a' := ?_) #[true, true, true, true, true, true, true, true, true, true, true, true, true, false, false, false, false, false, false, false, false] rfl rfl (take_ofW HT_.out HW_.out (by kernel_rfl)) (by decide) (quiet_off (by rfl)) ?_ ?_
            rotate_left
            · simp only [Act.put, List.setIfInBounds_toArray, List.set_cons_zero, List.set_cons_succ, i64_w, i32_w, List.getElem_toArray, List.getElem_cons_succ, List.getElem_cons_zero]
              rfl
            refine q_take (i := 13) (N := some 70) (v := _) (a' := ?_) #[true, true, true, true, true, true, true, true, true, true, true, true, true, true, false, false, false, false, false, false, false] rfl rfl (take_ofW HT_.out HW_.out (by kernel_rfl)) (by decide) (quiet_off (by rfl)) ?_ ?_
            rotate_left
            · simp only [Act.put, List.setIfInBounds_toArray, List.set_cons_zero, List.set_cons_succ, i64_w, i32_w, List.getElem_toArray, List.getElem_cons_succ, List.getElem_cons_zero]
              rfl
            refine q_take (i := 14) (N := some 71) (v := _) (a' := ?_) #[true, true, true, true, true, true, true, true, true, true, true, true, true, true, true, false, false, false, false, false, false] rfl rfl (take_ofW HT_.out HW_.out (by kernel_rfl)) (by decide) (quiet_off (by rfl)) ?_ ?_
            rotate_left
            · simp only [Act.put, List.setIfInBounds_toArray, List.set_cons_zero, List.set_cons_succ, i64_w, i32_w, List.getElem_toArray, List.getElem_cons_succ, List.getElem_cons_zero]
              rfl
            refine q_take (i := 15) (N := some 72) (v := _) (a' := ?_) #[true, true, true, true, true, true, true, true, true, true, true, true, true, true, true, true, false, false, false, false, false] rfl rfl (take_ofW HT_.out HW_.out (by kernel_rfl)) (by decide) (quiet_off (by rfl)) ?_ ?_
            rotate_left
            · simp only [Act.put, List.setIfInBounds_toArray, List.set_cons_zero, List.set_cons_succ, i64_w, i32_w, List.getElem_toArray, List.getElem_cons_succ, List.getElem_cons_zero]
              rfl
            refine q_take (i := 16) (N := some 73) (v := _) (a' := ?_) #[true, true, true, true, true, true, true, true, true, true, true, true, true, true, true, true, true, false, false, false, false] rfl rfl (take_ofW HT_.out HW_.out (by kernel_rfl)) (by decide) (quiet_off (by rfl)) ?_ ?_
            rotate_left
            · simp only [Act.put, List.setIfInBounds_toArray, List.set_cons_zero, List.set_cons_succ, i64_w, i32_w, List.getElem_toArray, List.getElem_cons_succ, List.getElem_cons_zero]
              rfl
            refine q_take (i := 17) (N := some 74) (v := _) (a' := ?_) #[true, true, true, true, true, true, true, true, true, true, true, true, true, true, true, true, true, true, false, false, false] rfl rfl (take_ofW HT_.out HW_.out (by kernel_rfl)) (by decide) (quiet_off (by rfl)) ?_ ?_
            rotate_left
            · simp only [Act.put, List.setIfInBounds_toArray, List.set_cons_zero, List.set_cons_succ, i64_w, i32_w, List.getElem_toArray, List.getElem_cons_succ, List.getElem_cons_zero]
              rfl
            refine q_take (i := 18) (N := some 75) (v := _) (a' := ?_) #[true, true, true, true, true, true, true, true, true, true, true, true, true, true, true, true, true, true, true, false, false] rfl rfl (take_ofW HT_.out HW_.out (by kernel_rfl)) (by decide) (quiet_off (by rfl)) ?_ ?_
            rotate_left
            · simp only [Act.put, List.setIfInBounds_toArray, List.set_cons_zero, List.set_cons_succ, i64_w, i32_w, List.getElem_toArray, List.getElem_cons_succ, List.getElem_cons_zero]
              rfl
            refine q_take (i := 19) (N := some 76) (v := ?_) (a' := ?_) #[true, true, true, true, true, true, true, true, true, true, true, true, true, true, true, true, true, true, true, true, false] rfl rfl (take_ofW HT_.out HW_.out (by kernel_rfl)) (by decide) (quiet_val (by rfl) ?_) ?_ ?_
            rotate_left
            · intro _ w_ _
              go_simp
              with_reducible rfl
            rotate_left
            · simp only [Act.put, List.setIfInBounds_toArray, List.set_cons_zero, List.set_cons_succ, i64_w, i32_w, List.getElem_toArray, List.getElem_cons_succ, List.getElem_cons_zero]
              rfl
            refine q_take (i := 20) (N := some 12) (v := ?_) (a' := ?_) #[true, true, true, true, true, true, true, true, true, true, true, true, true, true, true, true, true, true, true, true, true] rfl rfl (take_ofW HT_.out HW_.out (by kernel_rfl)) (by decide) (quiet_val (by rfl) ?_) ?_ ?_
            rotate_left
            · intro _ w_ _
              go_simp
              with_reducible rfl
            rotate_left
            · simp only [Act.put, List.setIfInBounds_toArray, List.set_cons_zero, List.set_cons_succ, i64_w, i32_w, List.getElem_toArray, List.getElem_cons_succ, List.getElem_cons_zero]
              rfl
            refine q_done (done_of HT_.out (by kernel_rfl)) ?_
            rintro w_ ⟨hHB, hHG, hHX, hHF, hHA⟩
            have HB := Aside0.mk hHB
            have HG := Aside0.mk hHG
            have HX := Aside0.mk hHX
            have HF := Aside0.mk hHF
            have HA := Aside0.mk hHA
            clear hHB hHG hHX hHF hHA
            have cHG_0 := c3_0 HG.out
            have cHG_1 := c3_1 HG.out
            have cHG_2 := c3_2 HG.out
            have cHX_n := cell_no HX.out
            have cHF_n := cell_no HF.out
            have cHA_n := cell_no HA.out
            rcases d1 with _ | _ <;> rcases d2 with _ | _ <;> rcases b2 with _ | _
            all_goals
              go_wp2_with (first
                  | ((with_reducible refine gate_dst (N := 78) rfl ?_); go_loud (refine wl_bl ?hw (.tmp 77) ?ho ?hx HA.out HMA.out ?_; (case hw => first | rfl | (go_simp; done)); (case ho => rfl); (case hx => rfl)))
                  | ((with_reducible refine gate_dst (N := 80) rfl ?_); go_loud (refine wl_bl ?hw (.tmp 79) ?ho ?hx HX.out HM.out ?_; (case hw => first | rfl | (go_simp; done)); (case ho => rfl); (case hx => rfl)))
                  | ((with_reducible refine gate_dst (N := 84) rfl ?_); go_loud (refine wl_sl ?hw (.tmp 83) ?ho ?hx HA.out HMA.out ?_; (case hw => first | rfl | (go_simp; done)); (case ho => rfl); (case hx => rfl)))
                  | ((with_reducible refine gate_dst (N := 86) rfl ?_); go_loud (refine wl_sl ?hw (.tmp 85) ?ho ?hx HX.out HM.out ?_; (case hw => first | rfl | (go_simp; done)); (case ho => rfl); (case hx => rfl)))
                  | ((with_reducible refine gate_dst (N := 81) rfl ?_); go_loud (refine wl_eqb ?hw (.tmp 78) (.tmp 80) (t2 := 25) ?ho ?hx ?hy (orUp_length _ _ _ _) HM.out.1 HD1.out ?_; (case hw => first | rfl | (go_simp; done)); (case ho => rfl); (case hx => rfl); (case hy => rfl)))
                  | ((with_reducible refine gate_dst (N := 87) rfl ?_); go_loud (refine wl_eqs ?hw (.tmp 84) (.tmp 86) (t2 := 26) ?ho ?hx ?hy (orUp_length _ _ _ _) HM.out.2 HD2.out ?_; (case hw => first | rfl | (go_simp; done)); (case ho => rfl); (case hx => rfl); (case hy => rfl))))
              go_ret
              exact ⟨by rw [HR.out]; rfl, HB.out⟩
          · skip
            clear cHG_0 cHG_1 cHG_2 cHX_n cHF_n cHA_n
            replace HB := Aside0.mk (below_drew HB.out)
            replace HG := Aside0.mk (blk_drew HG.out)
            replace HX := Aside0.mk (HeadAt.drew HX.out)
            replace HF := Aside0.mk (HeadAt.drew HF.out)
            replace HA := Aside0.mk (HeadAt.drew HA.out)
            refine q_start (n := 21) (S := fun (_ : Unit) w_ => Below w.heap.size w w_ ∧ w_.heap[g2]? = some (.cells #[.int .i64 G, .int .i64 I, .int .i64 N] 23 (0, 0)) ∧ HeadAt w_ g3 no bl sl ∧ HeadAt w_ g5 no fb fs ∧ HeadAt w_ g7 no (orUp 16 bl fb 16) (orUp 8 sl fs 8)) (ds := []) () #[false, false, false, false, false, false, false, false, false, false, false, false, false, false, false, false, false, false, false, false, false] (by kernel_rfl) rfl rfl ⟨HB.out, HG.out, HX.out, HF.out, HA.out⟩ ?_
            clear HB HG HX HF HA
            refine q_tab group_Right.tab15 group_Right.bits15 (fun HT_ HW_ => ?_)
            refine q_take (i := 0) (N := some 57) (v := ?_) (a' := ?_) #[true, false, false, false, false, false, false, false, false, false, false, false, false, false, false, false, false, false, false, false, false] rfl rfl (take_ofW HT_.out HW_.out (by kernel_rfl)) (by decide) (quiet_val (by rfl) ?_) ?_ ?_
            rotate_left
            · intro _ w_ _
              go_simp
              with_reducible rfl
            rotate_left
            · simp only [Act.put, List.setIfInBounds_toArray, List.set_cons_zero, List.set_cons_succ, i64_w, i32_w, List.getElem_toArray, List.getElem_cons_succ, List.getElem_cons_zero]
              rfl
            refine q_take (i := 1) (N := some 58) (v := ?_) (a' := ?_) #[true, true, false, false, false, false, false, false, false, false, false, false, false, false, false, false, false, false, false, false, false] rfl rfl (take_ofW HT_.out HW_.out (by kernel_rfl)) (by decide) (quiet_val (by rfl) ?_) ?_ ?_
            rotate_left
            · intro _ w_ _
              go_simp
              with_reducible rfl
            rotate_left
            · simp only [Act.put, List.setIfInBounds_toArray, List.set_cons_zero, List.set_cons_succ, i64_w, i32_w, List.getElem_toArray, List.getElem_cons_succ, List.getElem_cons_zero]
              rfl
            refine q_take (i := 2) (N := some 59) (v := ?_) (a' := ?_) #[true, true, true, false, false, false, false, false, false, false, false, false, false, false, false, false, false, false, false, false, false] rfl rfl (take_ofW HT_.out HW_.out (by kernel_rfl)) (by decide) (quiet_val (by rfl) ?_) ?_ ?_
            rotate_left
            · intro _ w_ _
              go_simp
              with_reducible rfl
            rotate_left
            · simp only [Act.put, List.setIfInBounds_toArray, List.set_cons_zero, List.set_cons_succ, i64_w, i32_w, List.getElem_toArray, List.getElem_cons_succ, List.getElem_cons_zero]
              rfl
            refine q_take (i := 3) (N := some 60) (v := ?_) (a' := ?_) #[true, true, true, true, false, false, false, false, false, false, false, false, false, false, false, false, false, false, false, false, false] rfl rfl (take_ofW HT_.out HW_.out (by kernel_rfl)) (by decide) (quiet_val (by rfl) ?_) ?_ ?_
            rotate_left
            · rintro _ w_ ⟨hHB, hHG, hHX, hHF, hHA⟩
              have HB := Aside0.mk hHB
              have HG := Aside0.mk hHG
              have HX := Aside0.mk hHX
              have HF := Aside0.mk hHF
              have HA := Aside0.mk hHA
              clear hHB hHG hHX hHF hHA
              have cHG_0 := c3_0 HG.out
              have cHG_1 := c3_1 HG.out
              have cHG_2 := c3_2 HG.out
              have cHX_n := cell_no HX.out
              have cHF_n := cell_no HF.out
              have cHA_n := cell_no HA.out
              go_simp
              with_reducible rfl
            rotate_left
            · simp only [Act.put, List.setIfInBounds_toArray, List.set_cons_zero, List.set_cons_succ, i64_w, i32_w, List.getElem_toArray, List.getElem_cons_succ, List.getElem_cons_zero]
              rfl
            refine q_take (i := 4) (N := some 61) (v := .int .i64 (cntZ bl G)) (a' := ?_) #[true, true, true, true, true, false, false, false, false, false, false, false, false, false, false, false, false, false, false, false, false] rfl rfl (take_ofW HT_.out HW_.out (by kernel_rfl)) (by decide) (quiet_call Try.func41 (by kernel_rfl) rfl #[.slice (some ⟨g3, 1, none⟩) 16 16, .int .i64 G] (by rfl) rfl (by (try simp only [List.map_toArray, List.map_cons, List.map_nil]); first | done | rfl) ?_) ?_ ?_
            · rintro _ w_ ⟨hHB, hHG, hHX, hHF, hHA⟩
              have HB := Aside0.mk hHB
              have HG := Aside0.mk hHG
              have HX := Aside0.mk hHX
              have HF := Aside0.mk hHF
              have HA := Aside0.mk hHA
              with_reducible refine (count_bl HX.out HM.out HIB.out G).mono ?_
              rintro e w_2 ⟨rfl, hb⟩
              exact ⟨rfl, ⟨below_step HB.out hb, blk_below HG.out hb, HeadAt.below HX.out hb, HeadAt.below HF.out hb, HeadAt.below HA.out hb⟩⟩
            rotate_left
            · simp only [Act.put, List.setIfInBounds_toArray, List.set_cons_zero, List.set_cons_succ, i64_w, i32_w, List.getElem_toArray, List.getElem_cons_succ, List.getElem_cons_zero]
              rfl
            refine q_take (i := 5) (N := some 62) (v := ?_) (a' := ?_) #[true, true, true, true, true, true, false, false, false, false, false, false, false, false, false, false, false, false, false, false, false] rfl rfl (take_ofW HT_.out HW_.out (by kernel_rfl)) (by decide) (quiet_val (by rfl) ?_) ?_ ?_
            rotate_left
            · intro _ w_ _
              go_simp
              with_reducible rfl
            rotate_left
            · simp only [Act.put, List.setIfInBounds_toArray, List.set_cons_zero, List.set_cons_succ, i64_w, i32_w, List.getElem_toArray, List.getElem_cons_succ, List.getElem_cons_zero]
              rfl
            refine q_take (i := 6) (N := some 63) (v := ?_) (a' := ?_) #[true, true, true, true, true, true, true, false, false, false, false, false, false, false, false, false, false, false, false, false, false] rfl rfl (take_ofW HT_.out HW_.out (by kernel_rfl)) (by decide) (quiet_val (by rfl) ?_) ?_ ?_
            rotate_left
            · intro _ w_ _
              go_simp
              with_reducible rfl
            rotate_left
            · simp only [Act.put, List.setIfInBounds_toArray, List.set_cons_zero, List.set_cons_succ, i64_w, i32_w, List.getElem_toArray, List.getElem_cons_succ, List.getElem_cons_zero]
              rfl
            refine q_take (i := 7) (N := some 64) (v := .int .i64 (cntZ bl 128)) (a' := ?_) #[true, true, true, true, true, true, true, true, false, false, false, false, false, false, false, false, false, false, false, false, false] rfl rfl (take_ofW HT_.out HW_.out (by kernel_rfl)) (by decide) (quiet_call Try.func41 (by kernel_rfl) rfl #[.slice (some ⟨g3, 1, none⟩) 16 16, .int .i64 128] (by rfl) rfl (by (try simp only [List.map_toArray, List.map_cons, List.map_nil]); first | done | rfl) ?_) ?_ ?_
            · rintro _ w_ ⟨hHB, hHG, hHX, hHF, hHA⟩
              have HB := Aside0.mk hHB
              have HG := Aside0.mk hHG
              have HX := Aside0.mk hHX
              have HF := Aside0.mk hHF
              have HA := Aside0.mk hHA
              with_reducible refine (count_bl HX.out HM.out HIB.out 128).mono ?_
              rintro e w_2 ⟨rfl, hb⟩
              exact ⟨rfl, ⟨below_step HB.out hb, blk_below HG.out hb, HeadAt.below HX.out hb, HeadAt.below HF.out hb, HeadAt.below HA.out hb⟩⟩
            rotate_left
            · simp only [Act.put, List.setIfInBounds_toArray, List.set_cons_zero, List.set_cons_succ, i64_w, i32_w, List.getElem_toArray, List.getElem_cons_succ, List.getElem_cons_zero]
              rfl
            refine q_take (i := 8) (N := some 65) (v := ?_) (a' := ?_) #[true, true, true, true, true, true, true, true, true, false, false, false, false, false, false, false, false, false, false, false, false] rfl rfl (take_ofW HT_.out HW_.out (by kernel_rfl)) (by decide) (quiet_val (by rfl) ?_) ?_ ?_
            rotate_left
            · intro _ w_ _
              go_simp
              with_reducible rfl
            rotate_left
            · simp only [Act.put, List.setIfInBounds_toArray, List.set_cons_zero, List.set_cons_succ, i64_w, i32_w, List.getElem_toArray, List.getElem_cons_succ, List.getElem_cons_zero]
              rfl
            refine q_take (i := 9) (N := some 66) (v := ?_) (a' := ?_) #[true, true, true, true, true, true, true, true, true, true, false, false, false, false, false, false, false, false, false, false, false] rfl rfl (take_ofW HT_.out HW_.out (by kernel_rfl)) (by decide) (quiet_val (by rfl) ?_) ?_ ?_
            rotate_left
            · intro _ w_ _
              go_simp
              with_reducible rfl
            rotate_left
            · simp only [Act.put, List.setIfInBounds_toArray, List.set_cons_zero, List.set_cons_succ, i64_w, i32_w, List.getElem_toArray, List.getElem_cons_succ, List.getElem_cons_zero]
              rfl
            refine q_take (i := 10) (N := some 67) (v := ?_) (a' := ?_) #[true, true, true, true, true, true, true, true, true, true, true, false, false, false, false, false, false, false, false, false, false] rfl rfl (take_ofW HT_.out HW_.out (by kernel_rfl)) (by decide) (quiet_val (by rfl) ?_) ?_ ?_
            rotate_left
            · intro _ w_ _
              go_simp
              with_reducible rfl
            rotate_left
            · simp only [Act.put, List.setIfInBounds_toArray, List.set_cons_zero, List.set_cons_succ, i64_w, i32_w, List.getElem_toArray, List.getElem_cons_succ, List.getElem_cons_zero]
              rfl
            refine q_take (i := 11) (N := some 68) (v := ?_) (a' := ?_) #[true, true, true, true, true, true, true, true, true, true, true, true, false, false, false, false, false, false, false, false, false] rfl rfl (take_ofW HT_.out HW_.out (by kernel_rfl)) (by decide) (quiet_val (by rfl) ?_) ?_ ?_
            rotate_left
            · intro _ w_ _
              go_simp
              with_reducible rfl
            rotate_left
            · simp only [Act.put, List.setIfInBounds_toArray, List.set_cons_zero, List.set_cons_succ, i64_w, i32_w, List.getElem_toArray, List.getElem_cons_succ, List.getElem_cons_zero]
              rfl
            refine q_take (i := 12) (N := some 69) (v := ?_) (a' := ?_) #[true, true, true, true, true, true, true, true, true, true, true, true, true, false, false, false, false, false, false, false, false] rfl rfl (take_ofW HT_.out HW_.out (by kernel_rfl)) (by decide) (quiet_val (by rfl) ?_) ?_ ?_
            rotate_left
            · intro _ w_ _
              go_simp
              with_reducible rfl
            rotate_left
            · simp only [Act.put, List.setIfInBounds_toArray, List.set_cons_zero, List.set_cons_succ, i64_w, i32_w, List.getElem_toArray, List.getElem_cons_succ, List.getElem_cons_zero]
              rfl
            refine q_take (i := 13) (N := some 70) (v := ?_) (a' := ?_) #[true, true, true, true, true, true, true, true, true, true, true, true, true, true, false, false, false, false, false, false, false] rfl rfl (take_ofW HT_.out HW_.out (by kernel_rfl)) (by decide) (quiet_val (by rfl) ?_) ?_ ?_
            rotate_left
            · rintro _ w_ ⟨hHB, hHG, hHX, hHF, hHA⟩
              have HB := Aside0.mk hHB
              have HG := Aside0.mk hHG
              have HX := Aside0.mk hHX
              have HF := Aside0.mk hHF
              have HA := Aside0.mk hHA
              clear hHB hHG hHX hHF hHA
              have cHG_0 := c3_0 HG.out
              have cHG_1 := c3_1 HG.out
              have cHG_2 := c3_2 HG.out
              have cHX_n := cell_no HX.out
              have cHF_n := cell_no HF.out
              have cHA_n := cell_no HA.out
              go_simp
              with_reducible rfl
            rotate_left
            · simp only [Act.put, List.setIfInBounds_toArray, List.set_cons_zero, List.set_cons_succ, i64_w, i32_w, List.getElem_toArray, List.getElem_cons_succ, List.getElem_cons_zero]
              rfl
            refine q_take (i := 14) (N := some 71) (v := .int .i64 (cntZ sl I)) (a' := ?_) #[true, true, true, true, true, true, true, true, true, true, true, true, true, true, true, false, false, false, false, false, false] rfl rfl (take_ofW HT_.out HW_.out (by kernel_rfl)) (by decide) (quiet_call Try.func41 (by kernel_rfl) rfl #[.slice (some ⟨g3, 17, none⟩) 8 8, .int .i64 I] (by rfl) rfl (by (try simp only [List.map_toArray, List.map_cons, List.map_nil]); first | done | rfl) ?_) ?_ ?_
            · rintro _ w_ ⟨hHB, hHG, hHX, hHF, hHA⟩
              have HB := Aside0.mk hHB
              have HG := Aside0.mk hHG
              have HX := Aside0.mk hHX
              have HF := Aside0.mk hHF
              have HA := Aside0.mk hHA
              with_reducible refine (count_sl HX.out HM.out HIS.out I).mono ?_
              rintro e w_2 ⟨rfl, hb⟩
              exact ⟨rfl, ⟨below_step HB.out hb, blk_below HG.out hb, HeadAt.below HX.out hb, HeadAt.below HF.out hb, HeadAt.below HA.out hb⟩⟩
            rotate_left
            · simp only [Act.put, List.setIfInBounds_toArray, List.set_cons_zero, List.set_cons_succ, i64_w, i32_w, List.getElem_toArray, List.getElem_cons_succ, List.getElem_cons_zero]
              rfl
            refine q_take (i := 15) (N := some 72) (v := ?_) (a' := ?_) #[true, true, true, true, true, true, true, true, true, true, true, true, true, true, true, true, false, false, false, false, false] rfl rfl (take_ofW HT_.out HW_.out (by kernel_rfl)) (by decide) (quiet_val (by rfl) ?_) ?_ ?_
            rotate_left
            · intro _ w_ _
              go_simp
              with_reducible rfl
            rotate_left
            · simp only [Act.put, List.setIfInBounds_toArray, List.set_cons_zero, List.set_cons_succ, i64_w, i32_w, List.getElem_toArray, List.getElem_cons_succ, List.getElem_cons_zero]
              rfl
            refine q_take (i := 16) (N := some 73) (v := ?_) (a' := ?_) #[true, true, true, true, true, true, true, true, true, true, true, true, true, true, true, true, true, false, false, false, false] rfl rfl (take_ofW HT_.out HW_.out (by kernel_rfl)) (by decide) (quiet_val (by rfl) ?_) ?_ ?_
            rotate_left
            · intro _ w_ _
              go_simp
              with_reducible rfl
            rotate_left
            · simp only [Act.put, List.setIfInBounds_toArray, List.set_cons_zero, List.set_cons_succ, i64_w, i32_w, List.getElem_toArray, List.getElem_cons_succ, List.getElem_cons_zero]
              rfl
            refine q_take (i := 17) (N := some 74) (v := .int .i64 (cntZ sl 64)) (a' := ?_) #[true, true, true, true, true, true, true, true, true, true, true, true, true, true, true, true, true, true, false, false, false] rfl rfl (take_ofW HT_.out HW_.out (by kernel_rfl)) (by decide) (quiet_call Try.func41 (by kernel_rfl) rfl #[.slice (some ⟨g3, 17, none⟩) 8 8, .int .i64 64] (by rfl) rfl (by (try simp only [List.map_toArray, List.map_cons, List.map_nil]); first | done | rfl) ?_) ?_ ?_
            · rintro _ w_ ⟨hHB, hHG, hHX, hHF, hHA⟩
              have HB := Aside0.mk hHB
              have HG := Aside0.mk hHG
              have HX := Aside0.mk hHX
              have HF := Aside0.mk hHF
              have HA := Aside0.mk hHA
              with_reducible refine (count_sl HX.out HM.out HIS.out 64).mono ?_
              rintro e w_2 ⟨rfl, hb⟩
              exact ⟨rfl, ⟨below_step HB.out hb, blk_below HG.out hb, HeadAt.below HX.out hb, HeadAt.below HF.out hb, HeadAt.below HA.out hb⟩⟩
            rotate_left
            · simp only [Act.put, List.setIfInBounds_toArray, List.set_cons_zero, List.set_cons_succ, i64_w, i32_w, List.getElem_toArray, List.getElem_cons_succ, List.getElem_cons_zero]
              rfl
            refine q_take (i := 18) (N := some 75) (v := ?_) (a' := ?_) #[true, true, true, true, true, true, true, true, true, true, true, true, true, true, true, true, true, true, true, false, false] rfl rfl (take_ofW HT_.out HW_.out (by kernel_rfl)) (by decide) (quiet_val (by rfl) ?_) ?_ ?_
            rotate_left
            · intro _ w_ _
              go_simp
              with_reducible rfl
            rotate_left
            · simp only [Act.put, List.setIfInBounds_toArray, List.set_cons_zero, List.set_cons_succ, i64_w, i32_w, List.getElem_toArray, List.getElem_cons_succ, List.getElem_cons_zero]
              rfl
            refine q_take (i := 19) (N := some 76) (v := ?_) (a' := ?_) #[true, true, true, true, true, true, true, true, true, true, true, true, true, true, true, true, true, true, true, true, false] rfl rfl (take_ofW HT_.out HW_.out (by kernel_rfl)) (by decide) (quiet_val (by rfl) ?_) ?_ ?_
            rotate_left
            · intro _ w_ _
              go_simp
              with_reducible rfl
            rotate_left
            · simp only [Act.put, List.setIfInBounds_toArray, List.set_cons_zero, List.set_cons_succ, i64_w, i32_w, List.getElem_toArray, List.getElem_cons_succ, List.getElem_cons_zero]
              rfl
            refine q_take (i := 20) (N := some 12) (v := ?_) (a' := ?_) #[true, true, true, true, true, true, true, true, true, true, true, true, true, true, true, true, true, true, true, true, true] rfl rfl (take_ofW HT_.out HW_.out (by kernel_rfl)) (by decide) (quiet_val (by rfl) ?_) ?_ ?_
            rotate_left
            · intro _ w_ _
              go_simp
              with_reducible rfl
            rotate_left
            · simp only [Act.put, List.setIfInBounds_toArray, List.set_cons_zero, List.set_cons_succ, i64_w, i32_w, List.getElem_toArray, List.getElem_cons_succ, List.getElem_cons_zero]
              rfl
            refine q_done (done_of HT_.out (by kernel_rfl)) ?_
            rintro w_ ⟨hHB, hHG, hHX, hHF, hHA⟩
            have HB := Aside0.mk hHB
            have HG := Aside0.mk hHG
            have HX := Aside0.mk hHX
            have HF := Aside0.mk hHF
            have HA := Aside0.mk hHA
            clear hHB hHG hHX hHF hHA
            have cHG_0 := c3_0 HG.out
            have cHG_1 := c3_1 HG.out
            have cHG_2 := c3_2 HG.out
            have cHX_n := cell_no HX.out
            have cHF_n := cell_no HF.out
            have cHA_n := cell_no HA.out
            rcases d1 with _ | _ <;> rcases d2 with _ | _ <;> rcases b2 with _ | _
            all_goals
              go_wp2_with (first
                  | ((with_reducible refine gate_dst (N := 78) rfl ?_); go_loud (refine wl_bl ?hw (.tmp 77) ?ho ?hx HA.out HMA.out ?_; (case hw => first | rfl | (go_simp; done)); (case ho => rfl); (case hx => rfl)))
                  | ((with_reducible refine gate_dst (N := 80) rfl ?_); go_loud (refine wl_bl ?hw (.tmp 79) ?ho ?hx HX.out HM.out ?_; (case hw => first | rfl | (go_simp; done)); (case ho => rfl); (case hx => rfl)))
                  | ((with_reducible refine gate_dst (N := 84) rfl ?_); go_loud (refine wl_sl ?hw (.tmp 83) ?ho ?hx HA.out HMA.out ?_; (case hw => first | rfl | (go_simp; done)); (case ho => rfl); (case hx => rfl)))
                  | ((with_reducible refine gate_dst (N := 86) rfl ?_); go_loud (refine wl_sl ?hw (.tmp 85) ?ho ?hx HX.out HM.out ?_; (case hw => first | rfl | (go_simp; done)); (case ho => rfl); (case hx => rfl)))
                  | ((with_reducible refine gate_dst (N := 81) rfl ?_); go_loud (refine wl_eqb ?hw (.tmp 78) (.tmp 80) (t2 := 25) ?ho ?hx ?hy (orUp_length _ _ _ _) HM.out.1 HD1.out ?_; (case hw => first | rfl | (go_simp; done)); (case ho => rfl); (case hx => rfl); (case hy => rfl)))
                  | ((with_reducible refine gate_dst (N := 87) rfl ?_); go_loud (refine wl_eqs ?hw (.tmp 84) (.tmp 86) (t2 := 26) ?ho ?hx ?hy (orUp_length _ _ _ _) HM.out.2 HD2.out ?_; (case hw => first | rfl | (go_simp; done)); (case ho => rfl); (case hx => rfl); (case hy => rfl))))
              go_ret
              exact ⟨by rw [HR.out]; rfl, HB.out⟩
end Go.Proofs.Ytonkgfgciegknaa.P