/-
leveelaw06.known, walked by hand.
Conditions: none.
-/
import Derived.Test.YtonkgfgciegknaaGroupPlain
namespace Go.Proofs.Ytonkgfgciegknaa.P
open Go.RowKit Go.Proofs.YtonkgfgciegknaaW.PrintWords Go.Proofs.YtonkgfgciegknaaW.PrintLast Go.Proofs.YtonkgfgciegknaaW.PrintMore
attribute [local go_sem] max2_int min2_int max_two min_two max_three min_three max_four min_four
set_option linter.unusedVariables false
set_option linter.unusedSimpArgs false
def kbl : List Int := onesL 3
def ksl : List Int := slots0 0
theorem k_HM : HM kbl ksl := ⟨⟨rfl, rfl⟩, ones_bytes ⟨3, by decide⟩, slots_bytes 0⟩
theorem k_ok : okS 16 8 2 0 = true := by decide
theorem k_right : rightP 16 8 2 0 kbl ksl = true := by decide +kernel
theorem k_free : freeP 16 8 2 0 kbl ksl = (13, 6) := by decide +kernel
theorem k_findB : findBP 16 8 2 0 kbl ksl 0 = 3 := by decide +kernel
theorem k_findS : findSP 16 8 2 0 kbl ksl 0 = 2 := by decide +kernel
def kput : List Int := putL 0 13 6 kbl ksl
theorem k_len : kput.length = 256 := putL_length k_HM.maps
theorem k_bytes : Bits.isBytes kput := show ∀ x ∈ kput, 0 ≤ x ∧ x < 256 by decide +kernel
theorem k_get : getP 16 8 2 kput = (0, kbl, ksl, 0) := by decide +kernel
theorem c_eq : decide ((0 : Int) = 0 ∧ kbl = kbl ∧ ksl = ksl) = true := decide_eq_true ⟨rfl, rfl, rfl⟩
theorem c_fresh (w : World) : Calls Try.prog 13 #[.agg #[.int .i64 16, .int .i64 8, .int .i64 2], .int .i64 0] w fun e w' => e = .returned (.tuple #[headV 0 kbl ksl, .int .i64 0]) ∧ Below w.heap.size w w' := fresh_yes 16 8 2 0 w k_ok
theorem c_free (w : World) : Calls Try.prog 24 #[.agg #[.int .i64 16, .int .i64 8, .int .i64 2], headV 0 kbl ksl] w fun e w' => e = .returned (.tuple #[.int .i64 13, .int .i64 6]) ∧ Below w.heap.size w w' := by
  have := free_any 16 8 2 0 kbl ksl w k_HM
  rw [k_free] at this
  exact this
theorem c_put (w : World) : Calls Try.prog 8 #[.agg #[.int .i64 16, .int .i64 8, .int .i64 2], headV 0 kbl ksl] w fun e w' => ∃ g, e = .returned (.tuple #[.slice (some ⟨g, 0, none⟩) 256 256, .int .i64 0]) ∧ w'.heap[g]? = some (.cells (nums .u8 kput).toArray 5 (0, 0)) ∧ Below w.heap.size w w' := by
  have := gput_yes 16 8 2 0 kbl ksl w k_HM k_right
  rw [k_free] at this
  exact this.mono fun e w' ⟨g, h1, h2, _, h4⟩ => ⟨g, h1, h2, h4⟩
theorem c_get (w : World) (g : Nat) (h : w.heap[g]? = some (.cells (nums .u8 kput).toArray 5 (0, 0))) : Calls Try.prog 11 #[.agg #[.int .i64 16, .int .i64 8, .int .i64 2], .slice (some ⟨g, 0, none⟩) 256 256] w fun e w' => e = .returned (.tuple #[headV 0 kbl ksl, .int .i64 0]) ∧ Below w.heap.size w w' := by
  have := gget_any 16 8 2 (some ⟨g, 0, none⟩) 256 kput w (C_of_blk h (by rw [k_len]; decide)) (by rw [k_len]; decide) k_bytes
  rw [k_get, k_len] at this
  exact this
theorem c_findB (w : World) : Calls Try.prog 26 #[.agg #[.int .i64 16, .int .i64 8, .int .i64 2], headV 0 kbl ksl, .int .i64 0] w fun e w' => e = .returned (.int .i64 3) ∧ Below w.heap.size w w' := by
  have := findB_any 16 8 2 0 kbl ksl 0 w k_HM
  rw [k_findB] at this
  exact this
theorem c_findS (w : World) : Calls Try.prog 28 #[.agg #[.int .i64 16, .int .i64 8, .int .i64 2], headV 0 kbl ksl, .int .i64 0] w fun e w' => e = .returned (.int .i64 2) ∧ Below w.heap.size w w' := by
  have := findS_any 16 8 2 0 kbl ksl 0 w k_HM
  rw [k_findS] at this
  exact this
set_option maxHeartbeats 16000000 in
set_option maxRecDepth 100000 in
theorem known_any (w : World) : Calls Try.prog 19 #[] w fun e w' => e = .returned (.bool true) ∧ Below w.heap.size w w' := by
  have HZ := Aside0.mk zeros_maps
  have HM := Aside0.mk k_HM.maps

  have HB := Aside0.mk (Below.refl w.heap.size w)
  go_enter Try.func19, Try.ntmps19
  go_wp2_with (first
    | ((with_reducible refine gate_dst (N := 1) rfl ?_); go_loud (refine box_event ?hg (N := 1) ?hd (cs := ([.int .i64 0, .int .i64 0, .int .i64 0]).toArray) (t := 23) ?hr ?_; (case hd => rfl); (case hg => rfl); (case hr => first | kernel_rfl | (go_simp; done) | (go_simp; rfl)); intro g1 hg w_ hx hb; have GE_HG := Aside0.mk (show w.heap.size ≤ g1 by have := HB.out.size; omega); clear hg; replace HB := Aside0.mk (below_step HB.out hb); clear hb; have HG : Aside0 (w_.heap[g1]? = some (.cells #[.int .i64 0, .int .i64 0, .int .i64 0] 23 (0, 0))) := ⟨hx⟩; clear hx; have cHG_0 := c3_0 HG.out; have cHG_1 := c3_1 HG.out; have cHG_2 := c3_2 HG.out))
    | ((refine gate_store (t := 23) (p := 1) rfl ?_); go_loud (refine store_all (P := Try.prog) (t := 23) (p := 1) (v := .tmp 10) ?hgd ?hN ?ho g1 ([.int .i64 16, .int .i64 8, .int .i64 2]) ?hx ?hy _ _ HG.out (info_geo) (rfl) (by intro v_ hv_; simp only [List.mem_cons, List.not_mem_nil, or_false] at hv_; rcases hv_ with rfl | rfl | rfl <;> rfl) w.heap.size w HB.out GE_HG.out ?_; (case hgd => rfl); (case hN => rfl); (case ho => rfl); (case hx => rfl); (case hy => rfl); intro w_ hx_ ho_ hb_; clear cHG_0 cHG_1 cHG_2; clear HB; have HB := Aside0.mk hb_; clear hb_; clear HG; have HG : Aside0 (w_.heap[g1]? = some (.cells #[.int .i64 16, .int .i64 8, .int .i64 2] 23 (0, 0))) := ⟨hx_⟩; clear hx_ ho_; have cHG_0 := c3_0 HG.out; have cHG_1 := c3_1 HG.out; have cHG_2 := c3_2 HG.out))
    | (go_at_call 13; go_loud ((with_reducible refine (c_fresh _).mono ?_); rintro e w_ ⟨rfl, hb⟩; clear cHG_0 cHG_1 cHG_2; replace HB := Aside0.mk (below_step HB.out hb); replace HG := Aside0.mk (blk_below HG.out hb); clear hb; have cHG_0 := c3_0 HG.out; have cHG_1 := c3_1 HG.out; have cHG_2 := c3_2 HG.out))
    | ((with_reducible refine gate_dst (N := 2) rfl ?_); go_loud (refine box_event ?hg (N := 2) ?hd (cs := (headC 0 (zeros 16) (zeros 8)).toArray) (t := 28) ?hr ?_; (case hd => rfl); (case hg => rfl); (case hr => kernel_rfl); intro g2 hg w_ hx hb; have NE_HG_HX := Aside0.mk (new_ne HG.out hg); have GE_HX := Aside0.mk (show w.heap.size ≤ g2 by have := HB.out.size; omega); clear hg; clear cHG_0 cHG_1 cHG_2; replace HB := Aside0.mk (below_step HB.out hb); replace HG := Aside0.mk (blk_below HG.out hb); clear hb; have HX : Aside0 (HeadAt w_ g2 0 (zeros 16) (zeros 8)) := ⟨hx⟩; clear hx; have cHG_0 := c3_0 HG.out; have cHG_1 := c3_1 HG.out; have cHG_2 := c3_2 HG.out; have cHX_n := cell_no HX.out))
    | ((refine gate_store (t := 28) (p := 2) rfl ?_); go_loud (refine store_all (P := Try.prog) (t := 28) (p := 2) (v := .tmp 14) ?hgd ?hN ?ho g2 (headC 0 kbl ksl) ?hx ?hy _ _ HX.out (hi_head HM.out) (hold_head HZ.out HM.out) (head_one _ _ _) w.heap.size w HB.out GE_HX.out ?_; (case hgd => rfl); (case hN => rfl); (case ho => rfl); (case hx => rfl); (case hy => rfl); intro w_ hx_ ho_ hb_; clear cHG_0 cHG_1 cHG_2 cHX_n; replace HG := Aside0.mk ((ho_ _ NE_HG_HX.out).trans HG.out); clear HB; have HB := Aside0.mk hb_; clear hb_; clear HX; have HX : Aside0 (HeadAt w_ g2 0 kbl ksl) := ⟨hx_⟩; clear hx_ ho_; have cHG_0 := c3_0 HG.out; have cHG_1 := c3_1 HG.out; have cHG_2 := c3_2 HG.out; have cHX_n := cell_no HX.out))
    | ((with_reducible refine gate_dst (N := 18) rfl ?_); go_loud (refine wl_head ?hw (.tmp 2) ?ho ?hx HX.out HM.out ?_; (case hw => first | rfl | (go_simp; done)); (case ho => rfl); (case hx => rfl)))
    | (go_at_call 24; go_loud ((with_reducible refine (c_free _).mono ?_); rintro e w_ ⟨rfl, hb⟩; clear cHG_0 cHG_1 cHG_2 cHX_n; replace HB := Aside0.mk (below_step HB.out hb); replace HG := Aside0.mk (blk_below HG.out hb); replace HX := Aside0.mk (HeadAt.below HX.out hb); clear hb; have cHG_0 := c3_0 HG.out; have cHG_1 := c3_1 HG.out; have cHG_2 := c3_2 HG.out; have cHX_n := cell_no HX.out))
    | ((with_reducible refine gate_dst (N := 24) rfl ?_); go_loud (refine wl_head ?hw (.tmp 2) ?ho ?hx HX.out HM.out ?_; (case hw => first | rfl | (go_simp; done)); (case ho => rfl); (case hx => rfl)))
    | (go_at_call 8; go_loud ((with_reducible refine (c_put _).mono ?_); rintro e w_ ⟨gp, rfl, hx, hb⟩; clear cHG_0 cHG_1 cHG_2 cHX_n; replace HB := Aside0.mk (below_step HB.out hb); replace HG := Aside0.mk (blk_below HG.out hb); replace HX := Aside0.mk (HeadAt.below HX.out hb); clear hb; have HP := Aside0.mk hx; clear hx; have cHG_0 := c3_0 HG.out; have cHG_1 := c3_1 HG.out; have cHG_2 := c3_2 HG.out; have cHX_n := cell_no HX.out))
    | (go_at_call 11; go_loud ((with_reducible refine (c_get _ gp HP.out).mono ?_); rintro e w_ ⟨rfl, hb⟩; clear cHG_0 cHG_1 cHG_2 cHX_n; replace HB := Aside0.mk (below_step HB.out hb); replace HG := Aside0.mk (blk_below HG.out hb); replace HX := Aside0.mk (HeadAt.below HX.out hb); replace HP := Aside0.mk (blk_below HP.out hb); clear hb; have cHG_0 := c3_0 HG.out; have cHG_1 := c3_1 HG.out; have cHG_2 := c3_2 HG.out; have cHX_n := cell_no HX.out))
    | ((with_reducible refine gate_dst (N := 8) rfl ?_); go_loud (refine box_event ?hg (N := 8) ?hd (cs := (headC 0 (zeros 16) (zeros 8)).toArray) (t := 28) ?hr ?_; (case hd => rfl); (case hg => rfl); (case hr => kernel_rfl); clear HP; intro g8 hg w_ hx hb; have NE_HG_HK := Aside0.mk (new_ne HG.out hg); have NE_HX_HK := Aside0.mk (new_ne HX.out hg); have GE_HK := Aside0.mk (show w.heap.size ≤ g8 by have := HB.out.size; omega); clear hg; clear cHG_0 cHG_1 cHG_2 cHX_n; replace HB := Aside0.mk (below_step HB.out hb); replace HG := Aside0.mk (blk_below HG.out hb); replace HX := Aside0.mk (HeadAt.below HX.out hb); clear hb; have HK : Aside0 (HeadAt w_ g8 0 (zeros 16) (zeros 8)) := ⟨hx⟩; clear hx; have cHG_0 := c3_0 HG.out; have cHG_1 := c3_1 HG.out; have cHG_2 := c3_2 HG.out; have cHX_n := cell_no HX.out; have cHK_n := cell_no HK.out))
    | ((refine gate_store (t := 28) (p := 8) rfl ?_); go_loud (refine store_all (P := Try.prog) (t := 28) (p := 8) (v := .tmp 32) ?hgd ?hN ?ho g8 (headC 0 kbl ksl) ?hx ?hy _ _ HK.out (hi_head HM.out) (hold_head HZ.out HM.out) (head_one _ _ _) w.heap.size w HB.out GE_HK.out ?_; (case hgd => rfl); (case hN => rfl); (case ho => rfl); (case hx => rfl); (case hy => rfl); intro w_ hx_ ho_ hb_; clear cHG_0 cHG_1 cHG_2 cHX_n cHK_n; replace HG := Aside0.mk ((ho_ _ NE_HG_HK.out).trans HG.out); replace HX := Aside0.mk (HeadAt.other HX.out ho_ NE_HX_HK.out); clear HB; have HB := Aside0.mk hb_; clear hb_; clear HK; have HK : Aside0 (HeadAt w_ g8 0 kbl ksl) := ⟨hx_⟩; clear hx_ ho_; have cHG_0 := c3_0 HG.out; have cHG_1 := c3_1 HG.out; have cHG_2 := c3_2 HG.out; have cHX_n := cell_no HX.out; have cHK_n := cell_no HK.out))
    | ((with_reducible refine gate_dst (N := 46) rfl ?_); go_loud (refine wl_head ?hw (.tmp 2) ?ho ?hx HX.out HM.out ?_; (case hw => first | rfl | (go_simp; done)); (case ho => rfl); (case hx => rfl)))
    | ((with_reducible refine gate_dst (N := 52) rfl ?_); go_loud (refine wl_head ?hw (.tmp 2) ?ho ?hx HX.out HM.out ?_; (case hw => first | rfl | (go_simp; done)); (case ho => rfl); (case hx => rfl)))
    | ((with_reducible refine gate_dst (N := 66) rfl ?_); go_loud (refine wl_head ?hw (.tmp 8) ?ho ?hx HK.out HM.out ?_; (case hw => first | rfl | (go_simp; done)); (case ho => rfl); (case hx => rfl)))
    | ((with_reducible refine gate_dst (N := 67) rfl ?_); go_loud (refine wl_head ?hw (.tmp 2) ?ho ?hx HX.out HM.out ?_; (case hw => first | rfl | (go_simp; done)); (case ho => rfl); (case hx => rfl)))
    | (go_at_call 26; go_loud ((with_reducible refine (c_findB _).mono ?_); rintro e w_ ⟨rfl, hb⟩; clear cHG_0 cHG_1 cHG_2 cHX_n cHK_n; replace HB := Aside0.mk (below_step HB.out hb); replace HG := Aside0.mk (blk_below HG.out hb); replace HX := Aside0.mk (HeadAt.below HX.out hb); replace HK := Aside0.mk (HeadAt.below HK.out hb); clear hb; have cHG_0 := c3_0 HG.out; have cHG_1 := c3_1 HG.out; have cHG_2 := c3_2 HG.out; have cHX_n := cell_no HX.out; have cHK_n := cell_no HK.out))
    | (go_at_call 28; go_loud ((with_reducible refine (c_findS _).mono ?_); rintro e w_ ⟨rfl, hb⟩; clear cHG_0 cHG_1 cHG_2 cHX_n cHK_n; replace HB := Aside0.mk (below_step HB.out hb); replace HG := Aside0.mk (blk_below HG.out hb); replace HX := Aside0.mk (HeadAt.below HX.out hb); replace HK := Aside0.mk (HeadAt.below HK.out hb); clear hb; have cHG_0 := c3_0 HG.out; have cHG_1 := c3_1 HG.out; have cHG_2 := c3_2 HG.out; have cHX_n := cell_no HX.out; have cHK_n := cell_no HK.out))
    | ((with_reducible refine gate_dst (N := 68) rfl ?_); go_loud (refine wl_eqh ?hw (.tmp 66) (.tmp 67) (t2 := 28) ?ho ?hx ?hy HM.out HM.out c_eq ?_; (case hw => first | rfl | (go_simp; done)); (case ho => rfl); (case hx => rfl); (case hy => rfl))))
  go_ret
  exact ⟨rfl, HB.out⟩
end Go.Proofs.Ytonkgfgciegknaa.P