/-
leveelaw06.same, walked by hand.
Conditions: none.
-/
import Derived.Test.YtonkgfgciegknaaHandGroupT
namespace Go.Proofs.Ytonkgfgciegknaa.P
open Go.RowKit Go.Proofs.YtonkgfgciegknaaW.PrintWords Go.Proofs.YtonkgfgciegknaaW.PrintLast Go.Proofs.YtonkgfgciegknaaW.PrintMore
attribute [local go_sem] max2_int min2_int max_two min_two max_three min_three max_four min_four
set_option linter.unusedVariables false
set_option linter.unusedSimpArgs false
theorem norm_q {P : Program} {ops : Array Oper} {md : Region.Mode} {σ : Type} {S : σ → World → Prop} {Q : Exit → Act → World → Prop} {ds : List Nat} {n : Nat} {l : Array Bool} {a a' : Act} {x : σ} (h : a = a') (k : qAny P md ops Q S ds n l a' x) : qAny P md ops Q S ds n l a x := h ▸ k
def law06_same.T4 : Bool × List (List Nat × List Nat) := (true, [([], []), ([], []), ([0, 1], [0, 1]), ([2], [2]), ([3], [3]), ([4, 3, 3], [3, 4]), ([3], [3]), ([5, 6, 5, 3], [3, 5, 6]), ([3, 7], [3, 7]), ([8, 7, 0, 1, 2, 3, 4, 5, 6, 7, 8], [8])])
def law06_same.B4 : List Nat := [0, 0, 3, 7, 15, 31, 15, 127, 255, 511]
theorem law06_same.tab4 : rtab .any (opsOf Try.f15 4) = law06_same.T4 := by kernel_rfl
theorem law06_same.bits4 : waitsOk law06_same.T4.2 law06_same.B4 = true := by kernel_rfl
theorem refSame_n {w : World} {A1 A2 B1 B2 : Option Addr} {c1 c2 d1 d2 : Nat} {bl sl : List Int} (no : Int) (hm : HM bl sl) (h1 : Row8 w (.slice A1 16 c1) bl) (h2 : Row8 w (.slice A2 8 c2) sl) (k1 : Row8 w (.slice B1 16 d1) bl) (k2 : Row8 w (.slice B2 8 d2) sl) :
    Calls Try.prog 40 #[.agg #[.int .i64 no, .slice A1 16 c1, .slice A2 8 c2], .agg #[.int .i64 no, .slice B1 16 d1, .slice B2 8 d2]] w fun e w' => e = .returned (.bool true) ∧ Below w.heap.size w w' := by
  have := leveeref06_Same.calls no A1 c1 bl A2 c2 sl no B1 d1 bl B2 d2 sl true w h1.C h1.le h2.C h2.le k1.C k1.le k2.C k2.le (by rw [refSame_eq no no bl sl bl sl hm.bytes hm.bytes2 hm.bytes hm.bytes2, decide_eq_true ⟨rfl, rfl, rfl⟩])
  rw [hm.maps.1, hm.maps.2] at this
  exact this

set_option maxHeartbeats 16000000 in
set_option maxRecDepth 100000 in
theorem same_yes (no : Int) (bl sl : List Int) (A1 : Option Addr) (c1 : Nat) (A2 : Option Addr) (c2 : Nat) (w : World) (hm : HM bl sl) (h1 : Row8 w (.slice A1 16 c1) bl) (h2 : Row8 w (.slice A2 8 c2) sl) :
    Calls Try.prog 15 #[headV no bl sl, .int .i64 0, .agg #[.int .i64 no, .slice A1 16 c1, .slice A2 8 c2], .int .i64 0] w fun e w' => e = .returned (.bool true) ∧ Below w.heap.size w w' := by
  have HM := Aside0.mk hm.maps
  have HMM := Aside0.mk hm
  have HV1 := Aside0.mk h1
  have HV2 := Aside0.mk h2
  have HB := Aside0.mk (Below.refl w.heap.size w)
  clear hm h1 h2
  go_enter Try.func15, Try.ntmps15
  go_wp2_with (first
    | ((with_reducible refine gate_dst (N := 4) rfl ?_); go_loud (refine box_event ?hg (N := 4) ?hd (cs := (headC no bl sl).toArray) (t := 28) ?hr ?_; (case hd => rfl); (case hg => rfl); (case hr => kernel_rfl); intro g1 hg w_ hx hb; have GE_HX := Aside0.mk (show w.heap.size ≤ g1 by have := HB.out.size; omega); clear hg; replace HB := Aside0.mk (below_step HB.out hb); replace HV1 := Aside0.mk (Row8.below HV1.out hb); replace HV2 := Aside0.mk (Row8.below HV2.out hb); clear hb; have HX : Aside0 (HeadAt w_ g1 no bl sl) := ⟨hx⟩; clear hx; have cHX_n := cell_no HX.out))
    | ((with_reducible refine gate_dst (N := 6) rfl ?_); go_loud (refine box_event ?hg (N := 6) ?hd (cs := ([.int .i64 no, .slice A1 16 c1, .slice A2 8 c2]).toArray) (t := 31) ?hr ?_; (case hd => rfl); (case hg => rfl); (case hr => first | kernel_rfl | (go_simp; done) | (go_simp; rfl)); intro g2 hg w_ hx hb; have NE_HX_HR := Aside0.mk (new_ne HX.out hg); have GE_HR := Aside0.mk (show w.heap.size ≤ g2 by have := HB.out.size; omega); clear hg; clear cHX_n; replace HB := Aside0.mk (below_step HB.out hb); replace HV1 := Aside0.mk (Row8.below HV1.out hb); replace HV2 := Aside0.mk (Row8.below HV2.out hb); replace HX := Aside0.mk (HeadAt.below HX.out hb); clear hb; have HR : Aside0 (w_.heap[g2]? = some (.cells #[.int .i64 no, .slice A1 16 c1, .slice A2 8 c2] 31 (0, 0))) := ⟨hx⟩; clear hx; have cHX_n := cell_no HX.out; have cHR_0 := c3_0 HR.out; have cHR_1 := c3_1 HR.out; have cHR_2 := c3_2 HR.out)))
  clear cHX_n cHR_0 cHR_1 cHR_2
  replace HB := Aside0.mk (below_drew HB.out)
  replace HV1 := Aside0.mk (Row8.drew HV1.out)
  replace HV2 := Aside0.mk (Row8.drew HV2.out)
  replace HX := Aside0.mk (HeadAt.drew HX.out)
  replace HR := Aside0.mk (blk_drew HR.out)
  refine q_start (n := 10) (S := fun (x : Option Addr × Nat × Option Addr × Nat) w_ => Below w.heap.size w w_ ∧ Row8 w_ (.slice A1 16 c1) bl ∧ Row8 w_ (.slice A2 8 c2) sl ∧ HeadAt w_ g1 no bl sl ∧ w_.heap[g2]? = some (.cells #[.int .i64 no, .slice A1 16 c1, .slice A2 8 c2] 31 (0, 0)) ∧ Row8 w_ (.slice x.1 16 x.2.1) bl ∧ Row8 w_ (.slice x.2.2.1 8 x.2.2.2) sl) (ds := []) (A1, c1, A2, c2) #[false, false, false, false, false, false, false, false, false, false] (by kernel_rfl) rfl rfl ⟨HB.out, HV1.out, HV2.out, HX.out, HR.out, HV1.out, HV2.out⟩ ?_
  clear HB HV1 HV2 HX HR
  refine q_tab law06_same.tab4 law06_same.bits4 (fun HT_ HW_ => ?_)
  refine q_take (i := 0) (N := some 21) (v := ?_) (a' := ?_) #[true, false, false, false, false, false, false, false, false, false] rfl rfl (take_ofW HT_.out HW_.out (by kernel_rfl)) (by decide) (quiet_val (by rfl) ?_) ?_ ?_
  rotate_left
  · intro _ w_ _
    go_simp
    with_reducible rfl
  rotate_left
  · simp only [Act.put, List.setIfInBounds_toArray, List.set_cons_zero, List.set_cons_succ, i64_w, i32_w, List.getElem_toArray, List.getElem_cons_succ, List.getElem_cons_zero]
    rfl
  refine q_take (i := 1) (N := some 22) (v := ?_) (a' := ?_) #[true, true, false, false, false, false, false, false, false, false] rfl rfl (take_ofW HT_.out HW_.out (by kernel_rfl)) (by decide) (quiet_val (by rfl) ?_) ?_ ?_
  rotate_left
  · intro _ w_ _
    go_simp
    with_reducible rfl
  rotate_left
  · simp only [Act.put, List.setIfInBounds_toArray, List.set_cons_zero, List.set_cons_succ, i64_w, i32_w, List.getElem_toArray, List.getElem_cons_succ, List.getElem_cons_zero]
    rfl
  refine q_take (i := 2) (N := some 23) (v := ?_) (a' := ?_) #[true, true, true, false, false, false, false, false, false, false] rfl rfl (take_ofW HT_.out HW_.out (by kernel_rfl)) (by decide) (quiet_val (by rfl) ?_) ?_ ?_
  rotate_left
  · intro _ w_ _
    go_simp
    with_reducible rfl
  rotate_left
  · simp only [Act.put, List.setIfInBounds_toArray, List.set_cons_zero, List.set_cons_succ, i64_w, i32_w, List.getElem_toArray, List.getElem_cons_succ, List.getElem_cons_zero]
    rfl
  refine q_take (i := 3) (N := some 24) (v := ?_) (a' := ?_) #[true, true, true, true, false, false, false, false, false, false] rfl rfl (take_ofW HT_.out HW_.out (by kernel_rfl)) (by decide) (quiet_val (by rfl) ?_) ?_ ?_
  rotate_left
  · intro _ w_ _
    go_simp
    with_reducible rfl
  rotate_left
  · simp only [Act.put, List.setIfInBounds_toArray, List.set_cons_zero, List.set_cons_succ, i64_w, i32_w, List.getElem_toArray, List.getElem_cons_succ, List.getElem_cons_zero]
    rfl
  refine q_take (i := 6) (N := some 27) (v := ?_) (a' := ?_) #[true, true, true, true, false, false, true, false, false, false] rfl rfl (take_ofW HT_.out HW_.out (by kernel_rfl)) (by decide) (quiet_val (by rfl) ?_) ?_ ?_
  rotate_left
  · rintro _ w_ ⟨hHB, hHV1, hHV2, hHX, hHR, hHW1, hHW2⟩
    have HB := Aside0.mk hHB
    have HV1 := Aside0.mk hHV1
    have HV2 := Aside0.mk hHV2
    have HX := Aside0.mk hHX
    have HR := Aside0.mk hHR
    clear hHB hHV1 hHV2 hHX hHR
    have cHX_n := cell_no HX.out
    have cHR_0 := c3_0 HR.out
    have cHR_1 := c3_1 HR.out
    have cHR_2 := c3_2 HR.out
    go_simp
    with_reducible rfl
  rotate_left
  · simp only [Act.put, List.setIfInBounds_toArray, List.set_cons_zero, List.set_cons_succ, i64_w, i32_w, List.getElem_toArray, List.getElem_cons_succ, List.getElem_cons_zero]
    rfl
  refine q_take (i := 4) (N := some 25) (v := headV no bl sl) (a' := ?_) #[true, true, true, true, true, false, true, false, false, false] rfl rfl (take_ofW HT_.out HW_.out (by kernel_rfl)) (by decide) (quiet_val (by rfl) ?_) ?_ ?_
  · rintro _ w_ ⟨hHB, hHV1, hHV2, hHX, hHR, hHW1, hHW2⟩
    have HB := Aside0.mk hHB
    have HV1 := Aside0.mk hHV1
    have HV2 := Aside0.mk hHV2
    have HX := Aside0.mk hHX
    have HR := Aside0.mk hHR
    clear hHB hHV1 hHV2 hHX hHR
    have cHX_n := cell_no HX.out
    have cHR_0 := c3_0 HR.out
    have cHR_1 := c3_1 HR.out
    have cHR_2 := c3_2 HR.out
    exact run_loadH (.tmp 4) rfl rfl HX.out HM.out
  rotate_left
  · simp only [Act.put, List.setIfInBounds_toArray, List.set_cons_zero, List.set_cons_succ, i64_w, i32_w, List.getElem_toArray, List.getElem_cons_succ, List.getElem_cons_zero]
    rfl
  refine q_new (i := 5) (N := some 26) (f := fun x => .agg #[.int .i64 no, .slice x.1 16 x.2.1, .slice x.2.2.1 8 x.2.2.2]) #[true, true, true, true, true, true, true, false, false, false] rfl rfl (one_of HT_.out (by kernel_rfl)) (by decide) (new_call Try.func7 (by kernel_rfl) rfl #[headV no bl sl] (by rfl) rfl (by (try simp only [List.map_toArray, List.map_cons, List.map_nil]); first | done | rfl) ?_) ?_
  · rintro w_ ⟨hHB, hHV1, hHV2, hHX, hHR, hHW1, hHW2⟩
    have HB := Aside0.mk hHB
    have HV1 := Aside0.mk hHV1
    have HV2 := Aside0.mk hHV2
    have HX := Aside0.mk hHX
    have HR := Aside0.mk hHR
    have HW1 := Aside0.mk hHW1
    have HW2 := Aside0.mk hHW2
    refine (taken_any no bl sl _ HMM.out).mono ?_
    rintro e w_2 ⟨B1, d1, B2, d2, rfl, hr1, hr2, hb⟩
    exact ⟨(B1, d1, B2, d2), rfl, below_step HB.out hb, Row8.below HV1.out hb, Row8.below HV2.out hb, HeadAt.below HX.out hb, blk_below HR.out hb, hr1, hr2⟩
  rintro ⟨B1, d1, B2, d2⟩
  refine norm_q (a' := ?_) ?_ ?_
  rotate_left
  · show Act.put _ (some 26) _ = _
    simp only [Act.put, List.setIfInBounds_toArray, List.set_cons_zero, List.set_cons_succ, i64_w, i32_w]
    rfl
  refine q_one (i := 7) (N := some 28) (v := .bool true) (a' := ?_) #[true, true, true, true, true, true, true, true, false, false] rfl rfl (one_of HT_.out (by kernel_rfl)) (by decide) (quiet_call Try.func40 (by kernel_rfl) rfl #[.agg #[.int .i64 no, .slice B1 16 d1, .slice B2 8 d2], .agg #[.int .i64 no, .slice A1 16 c1, .slice A2 8 c2]] (by rfl) rfl (by (try simp only [List.map_toArray, List.map_cons, List.map_nil]); first | done | rfl) ?_) ?_ ?_
  · rintro _ w_ ⟨hHB, hHV1, hHV2, hHX, hHR, hHW1, hHW2⟩
    have HB := Aside0.mk hHB
    have HV1 := Aside0.mk hHV1
    have HV2 := Aside0.mk hHV2
    have HX := Aside0.mk hHX
    have HR := Aside0.mk hHR
    have HW1 := Aside0.mk hHW1
    have HW2 := Aside0.mk hHW2
    with_reducible refine (refSame_n no HMM.out HW1.out HW2.out HV1.out HV2.out).mono ?_
    rintro e w_2 ⟨rfl, hb⟩
    exact ⟨rfl, ⟨below_step HB.out hb, Row8.below HV1.out hb, Row8.below HV2.out hb, HeadAt.below HX.out hb, blk_below HR.out hb, Row8.below HW1.out hb, Row8.below HW2.out hb⟩⟩
  rotate_left
  · simp only [Act.put, List.setIfInBounds_toArray, List.set_cons_zero, List.set_cons_succ, i64_w, i32_w, List.getElem_toArray, List.getElem_cons_succ, List.getElem_cons_zero]
    rfl
  refine q_take (i := 8) (N := some 29) (v := ?_) (a' := ?_) #[true, true, true, true, true, true, true, true, true, false] rfl rfl (take_ofW HT_.out HW_.out (by kernel_rfl)) (by decide) (quiet_val (by rfl) ?_) ?_ ?_
  rotate_left
  · intro _ w_ _
    go_simp
    with_reducible rfl
  rotate_left
  · simp only [Act.put, List.setIfInBounds_toArray, List.set_cons_zero, List.set_cons_succ, i64_w, i32_w, List.getElem_toArray, List.getElem_cons_succ, List.getElem_cons_zero]
    rfl
  refine q_take (i := 9) (N := some 8) (v := ?_) (a' := ?_) #[true, true, true, true, true, true, true, true, true, true] rfl rfl (take_ofW HT_.out HW_.out (by kernel_rfl)) (by decide) (quiet_val (by rfl) ?_) ?_ ?_
  rotate_left
  · intro _ w_ _
    go_simp
    with_reducible rfl
  rotate_left
  · simp only [Act.put, List.setIfInBounds_toArray, List.set_cons_zero, List.set_cons_succ, i64_w, i32_w, List.getElem_toArray, List.getElem_cons_succ, List.getElem_cons_zero]
    rfl
  refine q_done (done_of HT_.out (by kernel_rfl)) ?_
  rintro w_ ⟨hHB, hHV1, hHV2, hHX, hHR, hHW1, hHW2⟩
  have HB := Aside0.mk hHB
  have HV1 := Aside0.mk hHV1
  have HV2 := Aside0.mk hHV2
  have HX := Aside0.mk hHX
  have HR := Aside0.mk hHR
  clear hHB hHV1 hHV2 hHX hHR
  have cHX_n := cell_no HX.out
  have cHR_0 := c3_0 HR.out
  have cHR_1 := c3_1 HR.out
  have cHR_2 := c3_2 HR.out
  go_wp2
  go_ret
  exact ⟨rfl, HB.out⟩
theorem c_eq0 : decide ((0 : Int) = 0 ∧ zeros 16 = zeros 16 ∧ zeros 8 = zeros 8) = true := decide_eq_true ⟨rfl, rfl, rfl⟩
set_option maxHeartbeats 16000000 in
set_option maxRecDepth 100000 in
theorem same_err (er no : Int) (A1 : Option Addr) (n1 c1 : Nat) (A2 : Option Addr) (n2 c2 : Nat) (w : World) (he : er ≠ 0) :
    Calls Try.prog 15 #[headV 0 (zeros 16) (zeros 8), .int .i64 er, .agg #[.int .i64 no, .slice A1 n1 c1, .slice A2 n2 c2], .int .i64 er] w fun e w' => e = .returned (.bool true) ∧ Below w.heap.size w w' := by
  have HZ := Aside0.mk zeros_maps
  have HB := Aside0.mk (Below.refl w.heap.size w)
  go_enter Try.func15, Try.ntmps15
  go_wp2_with (first
    | ((with_reducible refine gate_dst (N := 4) rfl ?_); go_loud (refine box_event ?hg (N := 4) ?hd (cs := (headC 0 (zeros 16) (zeros 8)).toArray) (t := 28) ?hr ?_; (case hd => rfl); (case hg => rfl); (case hr => kernel_rfl); intro g1 hg w_ hx hb; have GE_HX := Aside0.mk (show w.heap.size ≤ g1 by have := HB.out.size; omega); clear hg; replace HB := Aside0.mk (below_step HB.out hb); clear hb; have HX : Aside0 (HeadAt w_ g1 0 (zeros 16) (zeros 8)) := ⟨hx⟩; clear hx; have cHX_n := cell_no HX.out))
    | ((with_reducible refine gate_dst (N := 6) rfl ?_); go_loud (refine box_event ?hg (N := 6) ?hd (cs := ([.int .i64 no, .slice A1 n1 c1, .slice A2 n2 c2]).toArray) (t := 31) ?hr ?_; (case hd => rfl); (case hg => rfl); (case hr => first | kernel_rfl | (go_simp; done) | (go_simp; rfl)); intro g2 hg w_ hx hb; have NE_HX_HR := Aside0.mk (new_ne HX.out hg); have GE_HR := Aside0.mk (show w.heap.size ≤ g2 by have := HB.out.size; omega); clear hg; clear cHX_n; replace HB := Aside0.mk (below_step HB.out hb); replace HX := Aside0.mk (HeadAt.below HX.out hb); clear hb; have HR : Aside0 (w_.heap[g2]? = some (.cells #[.int .i64 no, .slice A1 n1 c1, .slice A2 n2 c2] 31 (0, 0))) := ⟨hx⟩; clear hx; have cHX_n := cell_no HX.out; have cHR_0 := c3_0 HR.out; have cHR_1 := c3_1 HR.out; have cHR_2 := c3_2 HR.out))
    | ((with_reducible refine gate_dst (N := 9) rfl ?_); go_loud (refine box_event ?hg (N := 9) ?hd (cs := (headC 0 (zeros 16) (zeros 8)).toArray) (t := 28) ?hr ?_; (case hd => rfl); (case hg => rfl); (case hr => kernel_rfl); intro g3 hg w_ hx hb; have NE_HX_HY := Aside0.mk (new_ne HX.out hg); have NE_HR_HY := Aside0.mk (new_ne HR.out hg); have GE_HY := Aside0.mk (show w.heap.size ≤ g3 by have := HB.out.size; omega); clear hg; clear cHX_n cHR_0 cHR_1 cHR_2; replace HB := Aside0.mk (below_step HB.out hb); replace HX := Aside0.mk (HeadAt.below HX.out hb); replace HR := Aside0.mk (blk_below HR.out hb); clear hb; have HY : Aside0 (HeadAt w_ g3 0 (zeros 16) (zeros 8)) := ⟨hx⟩; clear hx; have cHX_n := cell_no HX.out; have cHR_0 := c3_0 HR.out; have cHR_1 := c3_1 HR.out; have cHR_2 := c3_2 HR.out; have cHY_n := cell_no HY.out))
    | ((refine gate_store (t := 28) (p := 9) rfl ?_); go_loud (refine store_all (P := Try.prog) (t := 28) (p := 9) (v := .tmp 12) ?hgd ?hN ?ho g3 (headC 0 (zeros 16) (zeros 8)) ?hx ?hy _ _ HY.out (hi_head HZ.out) (hold_head HZ.out HZ.out) (head_one _ _ _) w.heap.size w HB.out GE_HY.out ?_; (case hgd => rfl); (case hN => rfl); (case ho => rfl); (case hx => rfl); (case hy => rfl); intro w_ hx_ ho_ hb_; clear cHX_n cHR_0 cHR_1 cHR_2 cHY_n; replace HX := Aside0.mk (HeadAt.other HX.out ho_ NE_HX_HY.out); replace HR := Aside0.mk ((ho_ _ NE_HR_HY.out).trans HR.out); clear HB; have HB := Aside0.mk hb_; clear hb_; clear HY; have HY : Aside0 (HeadAt w_ g3 0 (zeros 16) (zeros 8)) := ⟨hx_⟩; clear hx_ ho_; have cHX_n := cell_no HX.out; have cHR_0 := c3_0 HR.out; have cHR_1 := c3_1 HR.out; have cHR_2 := c3_2 HR.out; have cHY_n := cell_no HY.out))
    | ((with_reducible refine gate_dst (N := 17) rfl ?_); go_loud (refine wl_head ?hw (.tmp 4) ?ho ?hx HX.out HZ.out ?_; (case hw => first | rfl | (go_simp; done)); (case ho => rfl); (case hx => rfl)))
    | ((with_reducible refine gate_dst (N := 18) rfl ?_); go_loud (refine wl_head ?hw (.tmp 9) ?ho ?hx HY.out HZ.out ?_; (case hw => first | rfl | (go_simp; done)); (case ho => rfl); (case hx => rfl)))
    | ((with_reducible refine gate_dst (N := 19) rfl ?_); go_loud (refine wl_eqh ?hw (.tmp 17) (.tmp 18) (t2 := 28) ?ho ?hx ?hy HZ.out HZ.out c_eq0 ?_; (case hw => first | rfl | (go_simp; done)); (case ho => rfl); (case hx => rfl); (case hy => rfl))))
  go_ret
  exact ⟨rfl, HB.out⟩
end Go.Proofs.Ytonkgfgciegknaa.P