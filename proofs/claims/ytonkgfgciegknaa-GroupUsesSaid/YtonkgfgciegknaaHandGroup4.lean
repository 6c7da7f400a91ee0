/-
group.Free, may, FindBlock, FindSlot, use, walked by hand.
Conditions: none.
-/
import Derived.Test.YtonkgfgciegknaaHandGroup3
namespace Go.Proofs.Ytonkgfgciegknaa.P
open Go.RowKit Go.Proofs.YtonkgfgciegknaaW.PrintWords Go.Proofs.YtonkgfgciegknaaW.PrintLast Go.Proofs.YtonkgfgciegknaaW.PrintMore
attribute [local go_sem] max2_int min2_int max_two min_two max_three min_three max_four min_four
set_option linter.unusedVariables false
set_option linter.unusedSimpArgs false
/-- Maps of bytes. -/
structure HM (bl sl : List Int) : Prop where
  maps : Maps bl sl
  bytes : Bits.isBytes bl
  bytes2 : Bits.isBytes sl
theorem right_any (G I N no : Int) (bl sl : List Int) (w : World) (hm : HM bl sl) :
    Calls Try.prog 16 #[.agg #[.int .i64 G, .int .i64 I, .int .i64 N], headV no bl sl] w fun e w' => e = .returned (.bool (rightP G I N no bl sl)) ∧ Below w.heap.size w w' := by
  cases h : okS G I N no with
  | false =>
    have e : rightP G I N no bl sl = false := by unfold rightP; rw [h, Bool.false_and]
    rw [e]
    exact right_bad G I N no bl sl w hm.maps h
  | true => exact right_good G I N no bl sl w hm.maps hm.bytes hm.bytes2 h
def freeP (G I N no : Int) (bl sl : List Int) : Int × Int := if rightP G I N no bl sl = true then (wrap64 (G - cntZ bl G), wrap64 (I - cntZ sl I)) else (0, 0)
def mayP (r : Bool) (i a b : Int) : Int := if r = true then (if i < a then 3 else if b ≤ i then 3 else 0) else 1
def findBP (G I N no : Int) (bl sl : List Int) (f : Int) : Int := if rightP G I N no bl sl = true then Bits.firstS (Bits.bitS bl) (Bits.mostS bl G) (Bits.fromS G f) else -1
def findSP (G I N no : Int) (bl sl : List Int) (f : Int) : Int := if rightP G I N no bl sl = true then Bits.firstS (Bits.bitS sl) (Bits.mostS sl I) (Bits.fromS I f) else -1
theorem first_bl {w : World} {g : Nat} {no : Int} {bl sl : List Int} (h : HeadAt w g no bl sl) (hm : HM bl sl) (n f : Int) :
    Calls Try.prog 47 #[.slice (some ⟨g, 1, none⟩) 16 16, .int .i64 n, .int .i64 f] w fun e w' => e = .returned (.int .i64 (Bits.firstS (Bits.bitS bl) (Bits.mostS bl n) (Bits.fromS n f))) ∧ Below w.heap.size w w' := by
  have := bits_First.calls 200 (some ⟨g, 1, none⟩) 16 bl n f _ w (C_bl h hm.maps) (by rw [hm.maps.1]; exact Nat.le_refl _) (Bits.First_eq bl hm.bytes (by rw [hm.maps.1]; decide) n f 200 (by rw [hm.maps.1]; decide))
  rw [hm.maps.1] at this
  exact this
theorem first_sl {w : World} {g : Nat} {no : Int} {bl sl : List Int} (h : HeadAt w g no bl sl) (hm : HM bl sl) (n f : Int) :
    Calls Try.prog 47 #[.slice (some ⟨g, 17, none⟩) 8 8, .int .i64 n, .int .i64 f] w fun e w' => e = .returned (.int .i64 (Bits.firstS (Bits.bitS sl) (Bits.mostS sl n) (Bits.fromS n f))) ∧ Below w.heap.size w w' := by
  have := bits_First.calls 200 (some ⟨g, 17, none⟩) 8 sl n f _ w (C_sl h hm.maps) (by rw [hm.maps.2]; exact Nat.le_refl _) (Bits.First_eq sl hm.bytes2 (by rw [hm.maps.2]; decide) n f 200 (by rw [hm.maps.2]; decide))
  rw [hm.maps.2] at this
  exact this
def group_Free.T3 : Bool × List (List Nat × List Nat) := (true, [([], []), ([0], [0]), ([], []), ([2], [2]), ([], []), ([4], [4]), ([3, 5], [3, 5]), ([1, 6], [1, 6]), ([], []), ([8], [8]), ([], []), ([10], [10]), ([], []), ([12], [12]), ([11, 13, 6], [11, 13]), ([9, 14], [9, 14]), ([7, 14, 0, 1, 2, 3, 4, 5, 6, 7], [7]), ([15, 16, 0, 1, 2, 3, 4, 5, 6, 7, 8, 9, 10, 11, 12, 13, 14, 15, 16], [15])])
def group_Free.B3 : List Nat := [0, 1, 0, 4, 0, 16, 60, 127, 0, 256, 0, 1024, 0, 4096, 15484, 32636, 31999, 131071]
theorem group_Free.tab3 : rtab .any (opsOf Try.f24 3) = group_Free.T3 := by kernel_rfl
theorem group_Free.bits3 : waitsOk group_Free.T3.2 group_Free.B3 = true := by kernel_rfl
set_option maxHeartbeats 16000000 in
set_option maxRecDepth 100000 in
theorem free_any (G I N no : Int) (bl sl : List Int) (w : World) (hm : HM bl sl) :
    Calls Try.prog 24 #[.agg #[.int .i64 G, .int .i64 I, .int .i64 N], headV no bl sl] w fun e w' => e = .returned (.tuple #[.int .i64 (freeP G I N no bl sl).1, .int .i64 (freeP G I N no bl sl).2]) ∧ Below w.heap.size w w' := by
  have HH := Aside0.mk hm
  have HM := Aside0.mk hm.maps
  have RA := Aside0.mk (fun (w : World) => right_any G I N no bl sl w hm)
  obtain ⟨r, hr⟩ : ∃ r, r = rightP G I N no bl sl := ⟨_, rfl⟩
  unfold freeP
  rw [← hr] at RA ⊢
  clear hr hm
  have HB := Aside0.mk (Below.refl w.heap.size w)
  go_enter Try.func24, Try.ntmps24
  rcases r with _ | _
  · go_wp2_with (first
      | ((with_reducible refine gate_dst (N := 2) rfl ?_); go_loud (refine box_event ?hg (N := 2) ?hd (cs := ([.int .i64 G, .int .i64 I, .int .i64 N]).toArray) (t := 23) ?hr ?_; (case hd => rfl); (case hg => rfl); (case hr => first | kernel_rfl | (go_simp; done) | (go_simp; rfl)); intro g2 hg w_ hx hb; have GE_HG := Aside0.mk (show w.heap.size ≤ g2 by have := HB.out.size; omega); clear hg; replace HB := Aside0.mk (below_step HB.out hb); clear hb; have HG : Aside0 (w_.heap[g2]? = some (.cells #[.int .i64 G, .int .i64 I, .int .i64 N] 23 (0, 0))) := ⟨hx⟩; clear hx; have cHG_0 := c3_0 HG.out; have cHG_1 := c3_1 HG.out; have cHG_2 := c3_2 HG.out))
      | ((with_reducible refine gate_dst (N := 3) rfl ?_); go_loud (refine box_event ?hg (N := 3) ?hd (cs := (headC no bl sl).toArray) (t := 28) ?hr ?_; (case hd => rfl); (case hg => rfl); (case hr => kernel_rfl); intro g3 hg w_ hx hb; have NE_HG_HX := Aside0.mk (new_ne HG.out hg); have GE_HX := Aside0.mk (show w.heap.size ≤ g3 by have := HB.out.size; omega); clear hg; clear cHG_0 cHG_1 cHG_2; replace HB := Aside0.mk (below_step HB.out hb); replace HG := Aside0.mk (blk_below HG.out hb); clear hb; have HX : Aside0 (HeadAt w_ g3 no bl sl) := ⟨hx⟩; clear hx; have cHG_0 := c3_0 HG.out; have cHG_1 := c3_1 HG.out; have cHG_2 := c3_2 HG.out; have cHX_n := cell_no HX.out))
      | ((with_reducible refine gate_dst (N := 7) rfl ?_); go_loud (refine wl_head ?hw (.tmp 3) ?ho ?hx HX.out HM.out ?_; (case hw => first | rfl | (go_simp; done)); (case ho => rfl); (case hx => rfl)))
      | (go_at_call 16; go_loud (with_reducible refine (RA.out _).mono ?_; rintro e w_ ⟨rfl, hb⟩; clear cHG_0 cHG_1 cHG_2 cHX_n; replace HB := Aside0.mk (below_step HB.out hb); replace HG := Aside0.mk (blk_below HG.out hb); replace HX := Aside0.mk (HeadAt.below HX.out hb); clear hb; have cHG_0 := c3_0 HG.out; have cHG_1 := c3_1 HG.out; have cHG_2 := c3_2 HG.out; have cHX_n := cell_no HX.out)))
    go_ret2
    exact ⟨rfl, HB.out⟩
  · go_wp2_with (first
      | ((with_reducible refine gate_dst (N := 2) rfl ?_); go_loud (refine box_event ?hg (N := 2) ?hd (cs := ([.int .i64 G, .int .i64 I, .int .i64 N]).toArray) (t := 23) ?hr ?_; (case hd => rfl); (case hg => rfl); (case hr => first | kernel_rfl | (go_simp; done) | (go_simp; rfl)); intro g2 hg w_ hx hb; have GE_HG := Aside0.mk (show w.heap.size ≤ g2 by have := HB.out.size; omega); clear hg; replace HB := Aside0.mk (below_step HB.out hb); clear hb; have HG : Aside0 (w_.heap[g2]? = some (.cells #[.int .i64 G, .int .i64 I, .int .i64 N] 23 (0, 0))) := ⟨hx⟩; clear hx; have cHG_0 := c3_0 HG.out; have cHG_1 := c3_1 HG.out; have cHG_2 := c3_2 HG.out))
      | ((with_reducible refine gate_dst (N := 3) rfl ?_); go_loud (refine box_event ?hg (N := 3) ?hd (cs := (headC no bl sl).toArray) (t := 28) ?hr ?_; (case hd => rfl); (case hg => rfl); (case hr => kernel_rfl); intro g3 hg w_ hx hb; have NE_HG_HX := Aside0.mk (new_ne HG.out hg); have GE_HX := Aside0.mk (show w.heap.size ≤ g3 by have := HB.out.size; omega); clear hg; clear cHG_0 cHG_1 cHG_2; replace HB := Aside0.mk (below_step HB.out hb); replace HG := Aside0.mk (blk_below HG.out hb); clear hb; have HX : Aside0 (HeadAt w_ g3 no bl sl) := ⟨hx⟩; clear hx; have cHG_0 := c3_0 HG.out; have cHG_1 := c3_1 HG.out; have cHG_2 := c3_2 HG.out; have cHX_n := cell_no HX.out))
      | ((with_reducible refine gate_dst (N := 7) rfl ?_); go_loud (refine wl_head ?hw (.tmp 3) ?ho ?hx HX.out HM.out ?_; (case hw => first | rfl | (go_simp; done)); (case ho => rfl); (case hx => rfl)))
      | (go_at_call 16; go_loud (with_reducible refine (RA.out _).mono ?_; rintro e w_ ⟨rfl, hb⟩; clear cHG_0 cHG_1 cHG_2 cHX_n; replace HB := Aside0.mk (below_step HB.out hb); replace HG := Aside0.mk (blk_below HG.out hb); replace HX := Aside0.mk (HeadAt.below HX.out hb); clear hb; have cHG_0 := c3_0 HG.out; have cHG_1 := c3_1 HG.out; have cHG_2 := c3_2 HG.out; have cHX_n := cell_no HX.out)))
    clear cHG_0 cHG_1 cHG_2 cHX_n
    replace HB := Aside0.mk (below_drew HB.out)
    replace HG := Aside0.mk (blk_drew HG.out)
    replace HX := Aside0.mk (HeadAt.drew HX.out)
    refine q_start (n := 18) (S := fun (_ : Unit) w_ => Below w.heap.size w w_ ∧ w_.heap[g2]? = some (.cells #[.int .i64 G, .int .i64 I, .int .i64 N] 23 (0, 0)) ∧ HeadAt w_ g3 no bl sl) (ds := []) () #[false, false, false, false, false, false, false, false, false, false, false, false, false, false, false, false, false, false] (by kernel_rfl) rfl rfl ⟨HB.out, HG.out, HX.out⟩ ?_
    clear HB HG HX
    refine q_tab group_Free.tab3 group_Free.bits3 (fun HT_ HW_ => ?_)
    refine q_take (i := 0) (N := some 10) (v := ?_) (a' := ?_) #[true, false, false, false, false, false, false, false, false, false, false, false, false, false, false, false, false, false] rfl rfl (take_ofW HT_.out HW_.out (by kernel_rfl)) (by decide) (quiet_val (by rfl) ?_) ?_ ?_
    rotate_left
    · intro _ w_ _
      go_simp
      with_reducible rfl
    rotate_left
    · simp only [Act.put, List.setIfInBounds_toArray, List.set_cons_zero, List.set_cons_succ, i64_w, i32_w, List.getElem_toArray, List.getElem_cons_succ, List.getElem_cons_zero]
      rfl
    refine q_take (i := 1) (N := some 11) (v := ?_) (a' := ?_) #[true, true, false, false, false, false, false, false, false, false, false, false, false, false, false, false, false, false] rfl rfl (take_ofW HT_.out HW_.out (by kernel_rfl)) (by decide) (quiet_val (by rfl) ?_) ?_ ?_
    rotate_left
    · rintro _ w_ ⟨hHB, hHG, hHX⟩
      have HB := Aside0.mk hHB
      have HG := Aside0.mk hHG
      have HX := Aside0.mk hHX
      clear hHB hHG hHX
      have cHG_0 := c3_0 HG.out
      have cHG_1 := c3_1 HG.out
      have cHG_2 := c3_2 HG.out
      have cHX_n := cell_no HX.out
      go_simp
      with_reducible rfl
    rotate_left
    · simp only [Act.put, List.setIfInBounds_toArray, List.set_cons_zero, List.set_cons_succ, i64_w, i32_w, List.getElem_toArray, List.getElem_cons_succ, List.getElem_cons_zero]
      rfl
    refine q_take (i := 2) (N := some 12) (v := ?_) (a' := ?_) #[true, true, true, false, false, false, false, false, false, false, false, false, false, false, false, false, false, false] rfl rfl (take_ofW HT_.out HW_.out (by kernel_rfl)) (by decide) (quiet_val (by rfl) ?_) ?_ ?_
    rotate_left
    · intro _ w_ _
      go_simp
      with_reducible rfl
    rotate_left
    · simp only [Act.put, List.setIfInBounds_toArray, List.set_cons_zero, List.set_cons_succ, i64_w, i32_w, List.getElem_toArray, List.getElem_cons_succ, List.getElem_cons_zero]
      rfl
    refine q_take (i := 3) (N := some 13) (v := ?_) (a' := ?_) #[true, true, true, true, false, false, false, false, false, false, false, false, false, false, false, false, false, false] rfl rfl (take_ofW HT_.out HW_.out (by kernel_rfl)) (by decide) (quiet_val (by rfl) ?_) ?_ ?_
    rotate_left
    · intro _ w_ _
      go_simp
      with_reducible rfl
    rotate_left
    · simp only [Act.put, List.setIfInBounds_toArray, List.set_cons_zero, List.set_cons_succ, i64_w, i32_w, List.getElem_toArray, List.getElem_cons_succ, List.getElem_cons_zero]
      rfl
    refine q_take (i := 4) (N := some 14) (v := ?_) (a' := ?_) #[true, true, true, true, true, false, false, false, false, false, false, false, false, false, false, false, false, false] rfl rfl (take_ofW HT_.out HW_.out (by kernel_rfl)) (by decide) (quiet_val (by rfl) ?_) ?_ ?_
    rotate_left
    · intro _ w_ _
      go_simp
      with_reducible rfl
    rotate_left
    · simp only [Act.put, List.setIfInBounds_toArray, List.set_cons_zero, List.set_cons_succ, i64_w, i32_w, List.getElem_toArray, List.getElem_cons_succ, List.getElem_cons_zero]
      rfl
    refine q_take (i := 5) (N := some 15) (v := ?_) (a' := ?_) #[true, true, true, true, true, true, false, false, false, false, false, false, false, false, false, false, false, false] rfl rfl (take_ofW HT_.out HW_.out (by kernel_rfl)) (by decide) (quiet_val (by rfl) ?_) ?_ ?_
    rotate_left
    · rintro _ w_ ⟨hHB, hHG, hHX⟩
      have HB := Aside0.mk hHB
      have HG := Aside0.mk hHG
      have HX := Aside0.mk hHX
      clear hHB hHG hHX
      have cHG_0 := c3_0 HG.out
      have cHG_1 := c3_1 HG.out
      have cHG_2 := c3_2 HG.out
      have cHX_n := cell_no HX.out
      go_simp
      with_reducible rfl
    rotate_left
    · simp only [Act.put, List.setIfInBounds_toArray, List.set_cons_zero, List.set_cons_succ, i64_w, i32_w, List.getElem_toArray, List.getElem_cons_succ, List.getElem_cons_zero]
      rfl
    refine q_take (i := 6) (N := some 16) (v := .int .i64 (cntZ bl G)) (a' := ?_) #[true, true, true, true, true, true, true, false, false, false, false, false, false, false, false, false, false, false] rfl rfl (take_ofW HT_.out HW_.out (by kernel_rfl)) (by decide) (quiet_call Try.func41 (by kernel_rfl) rfl #[.slice (some ⟨g3, 1, none⟩) 16 16, .int .i64 G] (by rfl) rfl (by (try simp only [List.map_toArray, List.map_cons, List.map_nil]); first | done | rfl) ?_) ?_ ?_
    · rintro _ w_ ⟨hHB, hHG, hHX⟩
      have HB := Aside0.mk hHB
      have HG := Aside0.mk hHG
      have HX := Aside0.mk hHX
      with_reducible refine (count_bl HX.out HM.out HH.out.bytes G).mono ?_
      rintro e w_2 ⟨rfl, hb⟩
      exact ⟨rfl, ⟨below_step HB.out hb, blk_below HG.out hb, HeadAt.below HX.out hb⟩⟩
    rotate_left
    · simp only [Act.put, List.setIfInBounds_toArray, List.set_cons_zero, List.set_cons_succ, i64_w, i32_w, List.getElem_toArray, List.getElem_cons_succ, List.getElem_cons_zero]
      rfl
    refine q_take (i := 7) (N := some 17) (v := ?_) (a' := ?_) #[true, true, true, true, true, true, true, true, false, false, false, false, false, false, false, false, false, false] rfl rfl (take_ofW HT_.out HW_.out (by kernel_rfl)) (by decide) (quiet_val (by rfl) ?_) ?_ ?_
    rotate_left
    · intro _ w_ _
      go_simp
      with_reducible rfl
    rotate_left
    · simp only [Act.put, List.setIfInBounds_toArray, List.set_cons_zero, List.set_cons_succ, i64_w, i32_w, List.getElem_toArray, List.getElem_cons_succ, List.getElem_cons_zero]
      rfl
    refine q_take (i := 8) (N := some 18) (v := ?_) (a' := ?_) #[true, true, true, true, true, true, true, true, true, false, false, false, false, false, false, false, false, false] rfl rfl (take_ofW HT_.out HW_.out (by kernel_rfl)) (by decide) (quiet_val (by rfl) ?_) ?_ ?_
    rotate_left
    · intro _ w_ _
      go_simp
      with_reducible rfl
    rotate_left
    · simp only [Act.put, List.setIfInBounds_toArray, List.set_cons_zero, List.set_cons_succ, i64_w, i32_w, List.getElem_toArray, List.getElem_cons_succ, List.getElem_cons_zero]
      rfl
    refine q_take (i := 9) (N := some 19) (v := ?_) (a' := ?_) #[true, true, true, true, true, true, true, true, true, true, false, false, false, false, false, false, false, false] rfl rfl (take_ofW HT_.out HW_.out (by kernel_rfl)) (by decide) (quiet_val (by rfl) ?_) ?_ ?_
    rotate_left
    · rintro _ w_ ⟨hHB, hHG, hHX⟩
      have HB := Aside0.mk hHB
      have HG := Aside0.mk hHG
      have HX := Aside0.mk hHX
      clear hHB hHG hHX
      have cHG_0 := c3_0 HG.out
      have cHG_1 := c3_1 HG.out
      have cHG_2 := c3_2 HG.out
      have cHX_n := cell_no HX.out
      go_simp
      with_reducible rfl
    rotate_left
    · simp only [Act.put, List.setIfInBounds_toArray, List.set_cons_zero, List.set_cons_succ, i64_w, i32_w, List.getElem_toArray, List.getElem_cons_succ, List.getElem_cons_zero]
      rfl
    refine q_take (i := 10) (N := some 20) (v := ?_) (a' := ?_) #[true, true, true, true, true, true, true, true, true, true, true, false, false, false, false, false, false, false] rfl rfl (take_ofW HT_.out HW_.out (by kernel_rfl)) (by decide) (quiet_val (by rfl) ?_) ?_ ?_
    rotate_left
    · intro _ w_ _
      go_simp
      with_reducible rfl
    rotate_left
    · simp only [Act.put, List.setIfInBounds_toArray, List.set_cons_zero, List.set_cons_succ, i64_w, i32_w, List.getElem_toArray, List.getElem_cons_succ, List.getElem_cons_zero]
      rfl
    refine q_take (i := 11) (N := some 21) (v := ?_) (a' := ?_) #[true, true, true, true, true, true, true, true, true, true, true, true, false, false, false, false, false, false] rfl rfl (take_ofW HT_.out HW_.out (by kernel_rfl)) (by decide) (quiet_val (by rfl) ?_) ?_ ?_
    rotate_left
    · intro _ w_ _
      go_simp
      with_reducible rfl
    rotate_left
    · simp only [Act.put, List.setIfInBounds_toArray, List.set_cons_zero, List.set_cons_succ, i64_w, i32_w, List.getElem_toArray, List.getElem_cons_succ, List.getElem_cons_zero]
      rfl
    refine q_take (i := 12) (N := some 22) (v := ?_) (a' := ?_) #[true, true, true, true, true, true, true, true, true, true, true, true, true, false, false, false, false, false] rfl rfl (take_ofW HT_.out HW_.out (by kernel_rfl)) (by decide) (quiet_val (by rfl) ?_) ?_ ?_
    rotate_left
    · intro _ w_ _
      go_simp
      with_reducible rfl
    rotate_left
    · simp only [Act.put, List.setIfInBounds_toArray, List.set_cons_zero, List.set_cons_succ, i64_w, i32_w, List.getElem_toArray, List.getElem_cons_succ, List.getElem_cons_zero]
      rfl
    refine q_take (i := 13) (N := some 23) (v := ?_) (a' := ?_) #[true, true, true, true, true, true, true, true, true, true, true, true, true, true, false, false, false, false] rfl rfl (take_ofW HT_.out HW_.out (by kernel_rfl)) (by decide) (quiet_val (by rfl) ?_) ?_ ?_
    rotate_left
    · rintro _ w_ ⟨hHB, hHG, hHX⟩
      have HB := Aside0.mk hHB
      have HG := Aside0.mk hHG
      have HX := Aside0.mk hHX
      clear hHB hHG hHX
      have cHG_0 := c3_0 HG.out
      have cHG_1 := c3_1 HG.out
      have cHG_2 := c3_2 HG.out
      have cHX_n := cell_no HX.out
      go_simp
      with_reducible rfl
    rotate_left
    · simp only [Act.put, List.setIfInBounds_toArray, List.set_cons_zero, List.set_cons_succ, i64_w, i32_w, List.getElem_toArray, List.getElem_cons_succ, List.getElem_cons_zero]
      rfl
    refine q_take (i := 14) (N := some 24) (v := .int .i64 (cntZ sl I)) (a' := ?_) #[true, true, true, true, true, true, true, true, true, true, true, true, true, true, true, false, false, false] rfl rfl (take_ofW HT_.out HW_.out (by kernel_rfl)) (by decide) (quiet_call Try.func41 (by kernel_rfl) rfl #[.slice (some ⟨g3, 17, none⟩) 8 8, .int .i64 I] (by rfl) rfl (by (try simp only [List.map_toArray, List.map_cons, List.map_nil]); first | done | rfl) ?_) ?_ ?_
    · rintro _ w_ ⟨hHB, hHG, hHX⟩
      have HB := Aside0.mk hHB
      have HG := Aside0.mk hHG
      have HX := Aside0.mk hHX
      with_reducible refine (count_sl HX.out HM.out HH.out.bytes2 I).mono ?_
      rintro e w_2 ⟨rfl, hb⟩
      exact ⟨rfl, ⟨below_step HB.out hb, blk_below HG.out hb, HeadAt.below HX.out hb⟩⟩
    rotate_left
    · simp only [Act.put, List.setIfInBounds_toArray, List.set_cons_zero, List.set_cons_succ, i64_w, i32_w, List.getElem_toArray, List.getElem_cons_succ, List.getElem_cons_zero]
      rfl
    refine q_take (i := 15) (N := some 25) (v := ?_) (a' := ?_) #[true, true, true, true, true, true, true, true, true, true, true, true, true, true, true, true, false, false] rfl rfl (take_ofW HT_.out HW_.out (by kernel_rfl)) (by decide) (quiet_val (by rfl) ?_) ?_ ?_
    rotate_left
    · intro _ w_ _
      go_simp
      with_reducible rfl
    rotate_left
    · simp only [Act.put, List.setIfInBounds_toArray, List.set_cons_zero, List.set_cons_succ, i64_w, i32_w, List.getElem_toArray, List.getElem_cons_succ, List.getElem_cons_zero]
      rfl
    refine q_take (i := 16) (N := some 4) (v := ?_) (a' := ?_) #[true, true, true, true, true, true, true, true, true, true, true, true, true, true, true, true, true, false] rfl rfl (take_ofW HT_.out HW_.out (by kernel_rfl)) (by decide) (quiet_val (by rfl) ?_) ?_ ?_
    rotate_left
    · intro _ w_ _
      go_simp
      with_reducible rfl
    rotate_left
    · simp only [Act.put, List.setIfInBounds_toArray, List.set_cons_zero, List.set_cons_succ, i64_w, i32_w, List.getElem_toArray, List.getElem_cons_succ, List.getElem_cons_zero]
      rfl
    refine q_take (i := 17) (N := some 5) (v := ?_) (a' := ?_) #[true, true, true, true, true, true, true, true, true, true, true, true, true, true, true, true, true, true] rfl rfl (take_ofW HT_.out HW_.out (by kernel_rfl)) (by decide) (quiet_val (by rfl) ?_) ?_ ?_
    rotate_left
    · intro _ w_ _
      go_simp
      with_reducible rfl
    rotate_left
    · simp only [Act.put, List.setIfInBounds_toArray, List.set_cons_zero, List.set_cons_succ, i64_w, i32_w, List.getElem_toArray, List.getElem_cons_succ, List.getElem_cons_zero]
      rfl
    refine q_done (done_of HT_.out (by kernel_rfl)) ?_
    rintro w_ ⟨hHB, hHG, hHX⟩
    have HB := Aside0.mk hHB
    have HG := Aside0.mk hHG
    have HX := Aside0.mk hHX
    clear hHB hHG hHX
    have cHG_0 := c3_0 HG.out
    have cHG_1 := c3_1 HG.out
    have cHG_2 := c3_2 HG.out
    have cHX_n := cell_no HX.out
    go_wp2
    go_ret2
    exact ⟨rfl, HB.out⟩
set_option maxHeartbeats 16000000 in
set_option maxRecDepth 100000 in
theorem may_any (G I N no : Int) (bl sl : List Int) (i a b : Int) (w : World) (hm : HM bl sl) :
    Calls Try.prog 43 #[.agg #[.int .i64 G, .int .i64 I, .int .i64 N], headV no bl sl, .int .i64 i, .int .i64 a, .int .i64 b] w fun e w' => e = .returned (.int .i64 (mayP (rightP G I N no bl sl) i a b)) ∧ Below w.heap.size w w' := by
  have HH := Aside0.mk hm
  have HM := Aside0.mk hm.maps
  have RA := Aside0.mk (fun (w : World) => right_any G I N no bl sl w hm)
  obtain ⟨r, hr⟩ : ∃ r, r = rightP G I N no bl sl := ⟨_, rfl⟩
  unfold mayP
  rw [← hr] at RA ⊢
  clear hr hm
  have HB := Aside0.mk (Below.refl w.heap.size w)
  go_enter Try.func43, Try.ntmps43
  rcases r with _ | _
  · go_wp2_with (first
      | ((with_reducible refine gate_dst (N := 5) rfl ?_); go_loud (refine box_event ?hg (N := 5) ?hd (cs := ([.int .i64 G, .int .i64 I, .int .i64 N]).toArray) (t := 23) ?hr ?_; (case hd => rfl); (case hg => rfl); (case hr => first | kernel_rfl | (go_simp; done) | (go_simp; rfl)); intro g5 hg w_ hx hb; have GE_HG := Aside0.mk (show w.heap.size ≤ g5 by have := HB.out.size; omega); clear hg; replace HB := Aside0.mk (below_step HB.out hb); clear hb; have HG : Aside0 (w_.heap[g5]? = some (.cells #[.int .i64 G, .int .i64 I, .int .i64 N] 23 (0, 0))) := ⟨hx⟩; clear hx; have cHG_0 := c3_0 HG.out; have cHG_1 := c3_1 HG.out; have cHG_2 := c3_2 HG.out))
      | ((with_reducible refine gate_dst (N := 6) rfl ?_); go_loud (refine box_event ?hg (N := 6) ?hd (cs := (headC no bl sl).toArray) (t := 28) ?hr ?_; (case hd => rfl); (case hg => rfl); (case hr => kernel_rfl); intro g6 hg w_ hx hb; have NE_HG_HX := Aside0.mk (new_ne HG.out hg); have GE_HX := Aside0.mk (show w.heap.size ≤ g6 by have := HB.out.size; omega); clear hg; clear cHG_0 cHG_1 cHG_2; replace HB := Aside0.mk (below_step HB.out hb); replace HG := Aside0.mk (blk_below HG.out hb); clear hb; have HX : Aside0 (HeadAt w_ g6 no bl sl) := ⟨hx⟩; clear hx; have cHG_0 := c3_0 HG.out; have cHG_1 := c3_1 HG.out; have cHG_2 := c3_2 HG.out; have cHX_n := cell_no HX.out))
      | ((with_reducible refine gate_dst (N := 13) rfl ?_); go_loud (refine wl_head ?hw (.tmp 6) ?ho ?hx HX.out HM.out ?_; (case hw => first | rfl | (go_simp; done)); (case ho => rfl); (case hx => rfl)))
      | (go_at_call 16; go_loud (with_reducible refine (RA.out _).mono ?_; rintro e w_ ⟨rfl, hb⟩; clear cHG_0 cHG_1 cHG_2 cHX_n; replace HB := Aside0.mk (below_step HB.out hb); replace HG := Aside0.mk (blk_below HG.out hb); replace HX := Aside0.mk (HeadAt.below HX.out hb); clear hb; have cHG_0 := c3_0 HG.out; have cHG_1 := c3_1 HG.out; have cHG_2 := c3_2 HG.out; have cHX_n := cell_no HX.out)))
    go_ret
    exact ⟨rfl, HB.out⟩
  · rw [if_pos rfl]
    by_cases h1 : i < a
    · rw [if_pos h1]
      go_wp2_with (first
        | ((with_reducible refine gate_dst (N := 5) rfl ?_); go_loud (refine box_event ?hg (N := 5) ?hd (cs := ([.int .i64 G, .int .i64 I, .int .i64 N]).toArray) (t := 23) ?hr ?_; (case hd => rfl); (case hg => rfl); (case hr => first | kernel_rfl | (go_simp; done) | (go_simp; rfl)); intro g5 hg w_ hx hb; have GE_HG := Aside0.mk (show w.heap.size ≤ g5 by have := HB.out.size; omega); clear hg; replace HB := Aside0.mk (below_step HB.out hb); clear hb; have HG : Aside0 (w_.heap[g5]? = some (.cells #[.int .i64 G, .int .i64 I, .int .i64 N] 23 (0, 0))) := ⟨hx⟩; clear hx; have cHG_0 := c3_0 HG.out; have cHG_1 := c3_1 HG.out; have cHG_2 := c3_2 HG.out))
        | ((with_reducible refine gate_dst (N := 6) rfl ?_); go_loud (refine box_event ?hg (N := 6) ?hd (cs := (headC no bl sl).toArray) (t := 28) ?hr ?_; (case hd => rfl); (case hg => rfl); (case hr => kernel_rfl); intro g6 hg w_ hx hb; have NE_HG_HX := Aside0.mk (new_ne HG.out hg); have GE_HX := Aside0.mk (show w.heap.size ≤ g6 by have := HB.out.size; omega); clear hg; clear cHG_0 cHG_1 cHG_2; replace HB := Aside0.mk (below_step HB.out hb); replace HG := Aside0.mk (blk_below HG.out hb); clear hb; have HX : Aside0 (HeadAt w_ g6 no bl sl) := ⟨hx⟩; clear hx; have cHG_0 := c3_0 HG.out; have cHG_1 := c3_1 HG.out; have cHG_2 := c3_2 HG.out; have cHX_n := cell_no HX.out))
        | ((with_reducible refine gate_dst (N := 13) rfl ?_); go_loud (refine wl_head ?hw (.tmp 6) ?ho ?hx HX.out HM.out ?_; (case hw => first | rfl | (go_simp; done)); (case ho => rfl); (case hx => rfl)))
        | (go_at_call 16; go_loud (with_reducible refine (RA.out _).mono ?_; rintro e w_ ⟨rfl, hb⟩; clear cHG_0 cHG_1 cHG_2 cHX_n; replace HB := Aside0.mk (below_step HB.out hb); replace HG := Aside0.mk (blk_below HG.out hb); replace HX := Aside0.mk (HeadAt.below HX.out hb); clear hb; have cHG_0 := c3_0 HG.out; have cHG_1 := c3_1 HG.out; have cHG_2 := c3_2 HG.out; have cHX_n := cell_no HX.out)))
      go_ret
      exact ⟨rfl, HB.out⟩
    · rw [if_neg h1]
      by_cases h2 : b ≤ i
      · rw [if_pos h2]
        go_wp2_with (first
          | ((with_reducible refine gate_dst (N := 5) rfl ?_); go_loud (refine box_event ?hg (N := 5) ?hd (cs := ([.int .i64 G, .int .i64 I, .int .i64 N]).toArray) (t := 23) ?hr ?_; (case hd => rfl); (case hg => rfl); (case hr => first | kernel_rfl | (go_simp; done) | (go_simp; rfl)); intro g5 hg w_ hx hb; have GE_HG := Aside0.mk (show w.heap.size ≤ g5 by have := HB.out.size; omega); clear hg; replace HB := Aside0.mk (below_step HB.out hb); clear hb; have HG : Aside0 (w_.heap[g5]? = some (.cells #[.int .i64 G, .int .i64 I, .int .i64 N] 23 (0, 0))) := ⟨hx⟩; clear hx; have cHG_0 := c3_0 HG.out; have cHG_1 := c3_1 HG.out; have cHG_2 := c3_2 HG.out))
          | ((with_reducible refine gate_dst (N := 6) rfl ?_); go_loud (refine box_event ?hg (N := 6) ?hd (cs := (headC no bl sl).toArray) (t := 28) ?hr ?_; (case hd => rfl); (case hg => rfl); (case hr => kernel_rfl); intro g6 hg w_ hx hb; have NE_HG_HX := Aside0.mk (new_ne HG.out hg); have GE_HX := Aside0.mk (show w.heap.size ≤ g6 by have := HB.out.size; omega); clear hg; clear cHG_0 cHG_1 cHG_2; replace HB := Aside0.mk (below_step HB.out hb); replace HG := Aside0.mk (blk_below HG.out hb); clear hb; have HX : Aside0 (HeadAt w_ g6 no bl sl) := ⟨hx⟩; clear hx; have cHG_0 := c3_0 HG.out; have cHG_1 := c3_1 HG.out; have cHG_2 := c3_2 HG.out; have cHX_n := cell_no HX.out))
          | ((with_reducible refine gate_dst (N := 13) rfl ?_); go_loud (refine wl_head ?hw (.tmp 6) ?ho ?hx HX.out HM.out ?_; (case hw => first | rfl | (go_simp; done)); (case ho => rfl); (case hx => rfl)))
          | (go_at_call 16; go_loud (with_reducible refine (RA.out _).mono ?_; rintro e w_ ⟨rfl, hb⟩; clear cHG_0 cHG_1 cHG_2 cHX_n; replace HB := Aside0.mk (below_step HB.out hb); replace HG := Aside0.mk (blk_below HG.out hb); replace HX := Aside0.mk (HeadAt.below HX.out hb); clear hb; have cHG_0 := c3_0 HG.out; have cHG_1 := c3_1 HG.out; have cHG_2 := c3_2 HG.out; have cHX_n := cell_no HX.out)))
        go_ret
        exact ⟨rfl, HB.out⟩
      · rw [if_neg h2]
        go_wp2_with (first
          | ((with_reducible refine gate_dst (N := 5) rfl ?_); go_loud (refine box_event ?hg (N := 5) ?hd (cs := ([.int .i64 G, .int .i64 I, .int .i64 N]).toArray) (t := 23) ?hr ?_; (case hd => rfl); (case hg => rfl); (case hr => first | kernel_rfl | (go_simp; done) | (go_simp; rfl)); intro g5 hg w_ hx hb; have GE_HG := Aside0.mk (show w.heap.size ≤ g5 by have := HB.out.size; omega); clear hg; replace HB := Aside0.mk (below_step HB.out hb); clear hb; have HG : Aside0 (w_.heap[g5]? = some (.cells #[.int .i64 G, .int .i64 I, .int .i64 N] 23 (0, 0))) := ⟨hx⟩; clear hx; have cHG_0 := c3_0 HG.out; have cHG_1 := c3_1 HG.out; have cHG_2 := c3_2 HG.out))
          | ((with_reducible refine gate_dst (N := 6) rfl ?_); go_loud (refine box_event ?hg (N := 6) ?hd (cs := (headC no bl sl).toArray) (t := 28) ?hr ?_; (case hd => rfl); (case hg => rfl); (case hr => kernel_rfl); intro g6 hg w_ hx hb; have NE_HG_HX := Aside0.mk (new_ne HG.out hg); have GE_HX := Aside0.mk (show w.heap.size ≤ g6 by have := HB.out.size; omega); clear hg; clear cHG_0 cHG_1 cHG_2; replace HB := Aside0.mk (below_step HB.out hb); replace HG := Aside0.mk (blk_below HG.out hb); clear hb; have HX : Aside0 (HeadAt w_ g6 no bl sl) := ⟨hx⟩; clear hx; have cHG_0 := c3_0 HG.out; have cHG_1 := c3_1 HG.out; have cHG_2 := c3_2 HG.out; have cHX_n := cell_no HX.out))
          | ((with_reducible refine gate_dst (N := 13) rfl ?_); go_loud (refine wl_head ?hw (.tmp 6) ?ho ?hx HX.out HM.out ?_; (case hw => first | rfl | (go_simp; done)); (case ho => rfl); (case hx => rfl)))
          | (go_at_call 16; go_loud (with_reducible refine (RA.out _).mono ?_; rintro e w_ ⟨rfl, hb⟩; clear cHG_0 cHG_1 cHG_2 cHX_n; replace HB := Aside0.mk (below_step HB.out hb); replace HG := Aside0.mk (blk_below HG.out hb); replace HX := Aside0.mk (HeadAt.below HX.out hb); clear hb; have cHG_0 := c3_0 HG.out; have cHG_1 := c3_1 HG.out; have cHG_2 := c3_2 HG.out; have cHX_n := cell_no HX.out)))
        go_ret
        exact ⟨rfl, HB.out⟩
def group_findB.T3 : Bool × List (List Nat × List Nat) := (true, [([], []), ([0], [0]), ([], []), ([2], [2]), ([], []), ([1, 3, 4], [1, 3, 4]), ([5, 5, 0, 1, 2, 3, 4, 5], [5])])
def group_findB.B3 : List Nat := [0, 1, 0, 4, 0, 31, 63]
theorem group_findB.tab3 : rtab .any (opsOf Try.f26 3) = group_findB.T3 := by kernel_rfl
theorem group_findB.bits3 : waitsOk group_findB.T3.2 group_findB.B3 = true := by kernel_rfl
set_option maxHeartbeats 16000000 in
set_option maxRecDepth 100000 in
theorem findB_any (G I N no : Int) (bl sl : List Int) (f : Int) (w : World) (hm : HM bl sl) :
    Calls Try.prog 26 #[.agg #[.int .i64 G, .int .i64 I, .int .i64 N], headV no bl sl, .int .i64 f] w fun e w' => e = .returned (.int .i64 (findBP G I N no bl sl f)) ∧ Below w.heap.size w w' := by
  have HH := Aside0.mk hm
  have HM := Aside0.mk hm.maps
  have RA := Aside0.mk (fun (w : World) => right_any G I N no bl sl w hm)
  obtain ⟨r, hr⟩ : ∃ r, r = rightP G I N no bl sl := ⟨_, rfl⟩
  unfold findBP
  rw [← hr] at RA ⊢
  clear hr hm
  have HB := Aside0.mk (Below.refl w.heap.size w)
  go_enter Try.func26, Try.ntmps26
  rcases r with _ | _
  · go_wp2_with (first
      | ((with_reducible refine gate_dst (N := 3) rfl ?_); go_loud (refine box_event ?hg (N := 3) ?hd (cs := ([.int .i64 G, .int .i64 I, .int .i64 N]).toArray) (t := 23) ?hr ?_; (case hd => rfl); (case hg => rfl); (case hr => first | kernel_rfl | (go_simp; done) | (go_simp; rfl)); intro g3 hg w_ hx hb; have GE_HG := Aside0.mk (show w.heap.size ≤ g3 by have := HB.out.size; omega); clear hg; replace HB := Aside0.mk (below_step HB.out hb); clear hb; have HG : Aside0 (w_.heap[g3]? = some (.cells #[.int .i64 G, .int .i64 I, .int .i64 N] 23 (0, 0))) := ⟨hx⟩; clear hx; have cHG_0 := c3_0 HG.out; have cHG_1 := c3_1 HG.out; have cHG_2 := c3_2 HG.out))
      | ((with_reducible refine gate_dst (N := 4) rfl ?_); go_loud (refine box_event ?hg (N := 4) ?hd (cs := (headC no bl sl).toArray) (t := 28) ?hr ?_; (case hd => rfl); (case hg => rfl); (case hr => kernel_rfl); intro g4 hg w_ hx hb; have NE_HG_HX := Aside0.mk (new_ne HG.out hg); have GE_HX := Aside0.mk (show w.heap.size ≤ g4 by have := HB.out.size; omega); clear hg; clear cHG_0 cHG_1 cHG_2; replace HB := Aside0.mk (below_step HB.out hb); replace HG := Aside0.mk (blk_below HG.out hb); clear hb; have HX : Aside0 (HeadAt w_ g4 no bl sl) := ⟨hx⟩; clear hx; have cHG_0 := c3_0 HG.out; have cHG_1 := c3_1 HG.out; have cHG_2 := c3_2 HG.out; have cHX_n := cell_no HX.out))
      | ((with_reducible refine gate_dst (N := 8) rfl ?_); go_loud (refine wl_head ?hw (.tmp 4) ?ho ?hx HX.out HM.out ?_; (case hw => first | rfl | (go_simp; done)); (case ho => rfl); (case hx => rfl)))
      | (go_at_call 16; go_loud (with_reducible refine (RA.out _).mono ?_; rintro e w_ ⟨rfl, hb⟩; clear cHG_0 cHG_1 cHG_2 cHX_n; replace HB := Aside0.mk (below_step HB.out hb); replace HG := Aside0.mk (blk_below HG.out hb); replace HX := Aside0.mk (HeadAt.below HX.out hb); clear hb; have cHG_0 := c3_0 HG.out; have cHG_1 := c3_1 HG.out; have cHG_2 := c3_2 HG.out; have cHX_n := cell_no HX.out)))
    go_ret
    exact ⟨rfl, HB.out⟩
  · go_wp2_with (first
      | ((with_reducible refine gate_dst (N := 3) rfl ?_); go_loud (refine box_event ?hg (N := 3) ?hd (cs := ([.int .i64 G, .int .i64 I, .int .i64 N]).toArray) (t := 23) ?hr ?_; (case hd => rfl); (case hg => rfl); (case hr => first | kernel_rfl | (go_simp; done) | (go_simp; rfl)); intro g3 hg w_ hx hb; have GE_HG := Aside0.mk (show w.heap.size ≤ g3 by have := HB.out.size; omega); clear hg; replace HB := Aside0.mk (below_step HB.out hb); clear hb; have HG : Aside0 (w_.heap[g3]? = some (.cells #[.int .i64 G, .int .i64 I, .int .i64 N] 23 (0, 0))) := ⟨hx⟩; clear hx; have cHG_0 := c3_0 HG.out; have cHG_1 := c3_1 HG.out; have cHG_2 := c3_2 HG.out))
      | ((with_reducible refine gate_dst (N := 4) rfl ?_); go_loud (refine box_event ?hg (N := 4) ?hd (cs := (headC no bl sl).toArray) (t := 28) ?hr ?_; (case hd => rfl); (case hg => rfl); (case hr => kernel_rfl); intro g4 hg w_ hx hb; have NE_HG_HX := Aside0.mk (new_ne HG.out hg); have GE_HX := Aside0.mk (show w.heap.size ≤ g4 by have := HB.out.size; omega); clear hg; clear cHG_0 cHG_1 cHG_2; replace HB := Aside0.mk (below_step HB.out hb); replace HG := Aside0.mk (blk_below HG.out hb); clear hb; have HX : Aside0 (HeadAt w_ g4 no bl sl) := ⟨hx⟩; clear hx; have cHG_0 := c3_0 HG.out; have cHG_1 := c3_1 HG.out; have cHG_2 := c3_2 HG.out; have cHX_n := cell_no HX.out))
      | ((with_reducible refine gate_dst (N := 8) rfl ?_); go_loud (refine wl_head ?hw (.tmp 4) ?ho ?hx HX.out HM.out ?_; (case hw => first | rfl | (go_simp; done)); (case ho => rfl); (case hx => rfl)))
      | (go_at_call 16; go_loud (with_reducible refine (RA.out _).mono ?_; rintro e w_ ⟨rfl, hb⟩; clear cHG_0 cHG_1 cHG_2 cHX_n; replace HB := Aside0.mk (below_step HB.out hb); replace HG := Aside0.mk (blk_below HG.out hb); replace HX := Aside0.mk (HeadAt.below HX.out hb); clear hb; have cHG_0 := c3_0 HG.out; have cHG_1 := c3_1 HG.out; have cHG_2 := c3_2 HG.out; have cHX_n := cell_no HX.out)))
    clear cHG_0 cHG_1 cHG_2 cHX_n
    replace HB := Aside0.mk (below_drew HB.out)
    replace HG := Aside0.mk (blk_drew HG.out)
    replace HX := Aside0.mk (HeadAt.drew HX.out)
    refine q_start (n := 7) (S := fun (_ : Unit) w_ => Below w.heap.size w w_ ∧ w_.heap[g3]? = some (.cells #[.int .i64 G, .int .i64 I, .int .i64 N] 23 (0, 0)) ∧ HeadAt w_ g4 no bl sl) (ds := []) () #[false, false, false, false, false, false, false] (by kernel_rfl) rfl rfl ⟨HB.out, HG.out, HX.out⟩ ?_
    clear HB HG HX
    refine q_tab group_findB.tab3 group_findB.bits3 (fun HT_ HW_ => ?_)
    refine q_take (i := 0) (N := some 11) (v := ?_) (a' := ?_) #[true, false, false, false, false, false, false] rfl rfl (take_ofW HT_.out HW_.out (by kernel_rfl)) (by decide) (quiet_val (by rfl) ?_) ?_ ?_
    rotate_left
    · intro _ w_ _
      go_simp
      with_reducible rfl
    rotate_left
    · simp only [Act.put, List.setIfInBounds_toArray, List.set_cons_zero, List.set_cons_succ, i64_w, i32_w, List.getElem_toArray, List.getElem_cons_succ, List.getElem_cons_zero]
      rfl
    refine q_take (i := 1) (N := some 12) (v := ?_) (a' := ?_) #[true, true, false, false, false, false, false] rfl rfl (take_ofW HT_.out HW_.out (by kernel_rfl)) (by decide) (quiet_val (by rfl) ?_) ?_ ?_
    rotate_left
    · intro _ w_ _
      go_simp
      with_reducible rfl
    rotate_left
    · simp only [Act.put, List.setIfInBounds_toArray, List.set_cons_zero, List.set_cons_succ, i64_w, i32_w, List.getElem_toArray, List.getElem_cons_succ, List.getElem_cons_zero]
      rfl
    refine q_take (i := 2) (N := some 13) (v := ?_) (a' := ?_) #[true, true, true, false, false, false, false] rfl rfl (take_ofW HT_.out HW_.out (by kernel_rfl)) (by decide) (quiet_val (by rfl) ?_) ?_ ?_
    rotate_left
    · intro _ w_ _
      go_simp
      with_reducible rfl
    rotate_left
    · simp only [Act.put, List.setIfInBounds_toArray, List.set_cons_zero, List.set_cons_succ, i64_w, i32_w, List.getElem_toArray, List.getElem_cons_succ, List.getElem_cons_zero]
      rfl
    refine q_take (i := 3) (N := some 14) (v := ?_) (a' := ?_) #[true, true, true, true, false, false, false] rfl rfl (take_ofW HT_.out HW_.out (by kernel_rfl)) (by decide) (quiet_val (by rfl) ?_) ?_ ?_
    rotate_left
    · rintro _ w_ ⟨hHB, hHG, hHX⟩
      have HB := Aside0.mk hHB
      have HG := Aside0.mk hHG
      have HX := Aside0.mk hHX
      clear hHB hHG hHX
      have cHG_0 := c3_0 HG.out
      have cHG_1 := c3_1 HG.out
      have cHG_2 := c3_2 HG.out
      have cHX_n := cell_no HX.out
      go_simp
      with_reducible rfl
    rotate_left
    · simp only [Act.put, List.setIfInBounds_toArray, List.set_cons_zero, List.set_cons_succ, i64_w, i32_w, List.getElem_toArray, List.getElem_cons_succ, List.getElem_cons_zero]
      rfl
    refine q_take (i := 4) (N := some 15) (v := ?_) (a' := ?_) #[true, true, true, true, true, false, false] rfl rfl (take_ofW HT_.out HW_.out (by kernel_rfl)) (by decide) (quiet_val (by rfl) ?_) ?_ ?_
    rotate_left
    · intro _ w_ _
      go_simp
      with_reducible rfl
    rotate_left
    · simp only [Act.put, List.setIfInBounds_toArray, List.set_cons_zero, List.set_cons_succ, i64_w, i32_w, List.getElem_toArray, List.getElem_cons_succ, List.getElem_cons_zero]
      rfl
    refine q_take (i := 5) (N := some 16) (v := .int .i64 (Bits.firstS (Bits.bitS bl) (Bits.mostS bl G) (Bits.fromS G f))) (a' := ?_) #[true, true, true, true, true, true, false] rfl rfl (take_ofW HT_.out HW_.out (by kernel_rfl)) (by decide) (quiet_call Try.func47 (by kernel_rfl) rfl #[.slice (some ⟨g4, 1, none⟩) 16 16, .int .i64 G, .int .i64 f] (by rfl) rfl (by (try simp only [List.map_toArray, List.map_cons, List.map_nil]); first | done | rfl) ?_) ?_ ?_
    · rintro _ w_ ⟨hHB, hHG, hHX⟩
      have HB := Aside0.mk hHB
      have HG := Aside0.mk hHG
      have HX := Aside0.mk hHX
      with_reducible refine (first_bl HX.out HH.out G f).mono ?_
      rintro e w_2 ⟨rfl, hb⟩
      exact ⟨rfl, ⟨below_step HB.out hb, blk_below HG.out hb, HeadAt.below HX.out hb⟩⟩
    rotate_left
    · simp only [Act.put, List.setIfInBounds_toArray, List.set_cons_zero, List.set_cons_succ, i64_w, i32_w, List.getElem_toArray, List.getElem_cons_succ, List.getElem_cons_zero]
      rfl
    refine q_take (i := 6) (N := some 6) (v := ?_) (a' := ?_) #[true, true, true, true, true, true, true] rfl rfl (take_ofW HT_.out HW_.out (by kernel_rfl)) (by decide) (quiet_val (by rfl) ?_) ?_ ?_
    rotate_left
    · intro _ w_ _
      go_simp
      with_reducible rfl
    rotate_left
    · simp only [Act.put, List.setIfInBounds_toArray, List.set_cons_zero, List.set_cons_succ, i64_w, i32_w, List.getElem_toArray, List.getElem_cons_succ, List.getElem_cons_zero]
      rfl
    refine q_done (done_of HT_.out (by kernel_rfl)) ?_
    rintro w_ ⟨hHB, hHG, hHX⟩
    have HB := Aside0.mk hHB
    have HG := Aside0.mk hHG
    have HX := Aside0.mk hHX
    clear hHB hHG hHX
    have cHG_0 := c3_0 HG.out
    have cHG_1 := c3_1 HG.out
    have cHG_2 := c3_2 HG.out
    have cHX_n := cell_no HX.out
    go_wp2
    go_ret
    exact ⟨rfl, HB.out⟩
def group_findS.T3 : Bool × List (List Nat × List Nat) := (true, [([], []), ([0], [0]), ([], []), ([2], [2]), ([], []), ([1, 3, 4], [1, 3, 4]), ([5, 5, 0, 1, 2, 3, 4, 5], [5])])
def group_findS.B3 : List Nat := [0, 1, 0, 4, 0, 31, 63]
theorem group_findS.tab3 : rtab .any (opsOf Try.f28 3) = group_findS.T3 := by kernel_rfl
theorem group_findS.bits3 : waitsOk group_findS.T3.2 group_findS.B3 = true := by kernel_rfl
set_option maxHeartbeats 16000000 in
set_option maxRecDepth 100000 in
theorem findS_any (G I N no : Int) (bl sl : List Int) (f : Int) (w : World) (hm : HM bl sl) :
    Calls Try.prog 28 #[.agg #[.int .i64 G, .int .i64 I, .int .i64 N], headV no bl sl, .int .i64 f] w fun e w' => e = .returned (.int .i64 (findSP G I N no bl sl f)) ∧ Below w.heap.size w w' := by
  have HH := Aside0.mk hm
  have HM := Aside0.mk hm.maps
  have RA := Aside0.mk (fun (w : World) => right_any G I N no bl sl w hm)
  obtain ⟨r, hr⟩ : ∃ r, r = rightP G I N no bl sl := ⟨_, rfl⟩
  unfold findSP
  rw [← hr] at RA ⊢
  clear hr hm
  have HB := Aside0.mk (Below.refl w.heap.size w)
  go_enter Try.func28, Try.ntmps28
  rcases r with _ | _
  · go_wp2_with (first
      | ((with_reducible refine gate_dst (N := 3) rfl ?_); go_loud (refine box_event ?hg (N := 3) ?hd (cs := ([.int .i64 G, .int .i64 I, .int .i64 N]).toArray) (t := 23) ?hr ?_; (case hd => rfl); (case hg => rfl); (case hr => first | kernel_rfl | (go_simp; done) | (go_simp; rfl)); intro g3 hg w_ hx hb; have GE_HG := Aside0.mk (show w.heap.size ≤ g3 by have := HB.out.size; omega); clear hg; replace HB := Aside0.mk (below_step HB.out hb); clear hb; have HG : Aside0 (w_.heap[g3]? = some (.cells #[.int .i64 G, .int .i64 I, .int .i64 N] 23 (0, 0))) := ⟨hx⟩; clear hx; have cHG_0 := c3_0 HG.out; have cHG_1 := c3_1 HG.out; have cHG_2 := c3_2 HG.out))
      | ((with_reducible refine gate_dst (N := 4) rfl ?_); go_loud (refine box_event ?hg (N := 4) ?hd (cs := (headC no bl sl).toArray) (t := 28) ?hr ?_; (case hd => rfl); (case hg => rfl); (case hr => kernel_rfl); intro g4 hg w_ hx hb; have NE_HG_HX := Aside0.mk (new_ne HG.out hg); have GE_HX := Aside0.mk (show w.heap.size ≤ g4 by have := HB.out.size; omega); clear hg; clear cHG_0 cHG_1 cHG_2; replace HB := Aside0.mk (below_step HB.out hb); replace HG := Aside0.mk (blk_below HG.out hb); clear hb; have HX : Aside0 (HeadAt w_ g4 no bl sl) := ⟨hx⟩; clear hx; have cHG_0 := c3_0 HG.out; have cHG_1 := c3_1 HG.out; have cHG_2 := c3_2 HG.out; have cHX_n := cell_no HX.out))
      | ((with_reducible refine gate_dst (N := 8) rfl ?_); go_loud (refine wl_head ?hw (.tmp 4) ?ho ?hx HX.out HM.out ?_; (case hw => first | rfl | (go_simp; done)); (case ho => rfl); (case hx => rfl)))
      | (go_at_call 16; go_loud (with_reducible refine (RA.out _).mono ?_; rintro e w_ ⟨rfl, hb⟩; clear cHG_0 cHG_1 cHG_2 cHX_n; replace HB := Aside0.mk (below_step HB.out hb); replace HG := Aside0.mk (blk_below HG.out hb); replace HX := Aside0.mk (HeadAt.below HX.out hb); clear hb; have cHG_0 := c3_0 HG.out; have cHG_1 := c3_1 HG.out; have cHG_2 := c3_2 HG.out; have cHX_n := cell_no HX.out)))
    go_ret
    exact ⟨rfl, HB.out⟩
  · go_wp2_with (first
      | ((with_reducible refine gate_dst (N := 3) rfl ?_); go_loud (refine box_event ?hg (N := 3) ?hd (cs := ([.int .i64 G, .int .i64 I, .int .i64 N]).toArray) (t := 23) ?hr ?_; (case hd => rfl); (case hg => rfl); (case hr => first | kernel_rfl | (go_simp; done) | (go_simp; rfl)); intro g3 hg w_ hx hb; have GE_HG := Aside0.mk (show w.heap.size ≤ g3 by have := HB.out.size; omega); clear hg; replace HB := Aside0.mk (below_step HB.out hb); clear hb; have HG : Aside0 (w_.heap[g3]? = some (.cells #[.int .i64 G, .int .i64 I, .int .i64 N] 23 (0, 0))) := ⟨hx⟩; clear hx; have cHG_0 := c3_0 HG.out; have cHG_1 := c3_1 HG.out; have cHG_2 := c3_2 HG.out))
      | ((with_reducible refine gate_dst (N := 4) rfl ?_); go_loud (refine box_event ?hg (N := 4) ?hd (cs := (headC no bl sl).toArray) (t := 28) ?hr ?_; (case hd => rfl); (case hg => rfl); (case hr => kernel_rfl); intro g4 hg w_ hx hb; have NE_HG_HX := Aside0.mk (new_ne HG.out hg); have GE_HX := Aside0.mk (show w.heap.size ≤ g4 by have := HB.out.size; omega); clear hg; clear cHG_0 cHG_1 cHG_2; replace HB := Aside0.mk (below_step HB.out hb); replace HG := Aside0.mk (blk_below HG.out hb); clear hb; have HX : Aside0 (HeadAt w_ g4 no bl sl) := ⟨hx⟩; clear hx; have cHG_0 := c3_0 HG.out; have cHG_1 := c3_1 HG.out; have cHG_2 := c3_2 HG.out; have cHX_n := cell_no HX.out))
      | ((with_reducible refine gate_dst (N := 8) rfl ?_); go_loud (refine wl_head ?hw (.tmp 4) ?ho ?hx HX.out HM.out ?_; (case hw => first | rfl | (go_simp; done)); (case ho => rfl); (case hx => rfl)))
      | (go_at_call 16; go_loud (with_reducible refine (RA.out _).mono ?_; rintro e w_ ⟨rfl, hb⟩; clear cHG_0 cHG_1 cHG_2 cHX_n; replace HB := Aside0.mk (below_step HB.out hb); replace HG := Aside0.mk (blk_below HG.out hb); replace HX := Aside0.mk (HeadAt.below HX.out hb); clear hb; have cHG_0 := c3_0 HG.out; have cHG_1 := c3_1 HG.out; have cHG_2 := c3_2 HG.out; have cHX_n := cell_no HX.out)))
    clear cHG_0 cHG_1 cHG_2 cHX_n
    replace HB := Aside0.mk (below_drew HB.out)
    replace HG := Aside0.mk (blk_drew HG.out)
    replace HX := Aside0.mk (HeadAt.drew HX.out)
    refine q_start (n := 7) (S := fun (_ : Unit) w_ => Below w.heap.size w w_ ∧ w_.heap[g3]? = some (.cells #[.int .i64 G, .int .i64 I, .int .i64 N] 23 (0, 0)) ∧ HeadAt w_ g4 no bl sl) (ds := []) () #[false, false, false, false, false, false, false] (by kernel_rfl) rfl rfl ⟨HB.out, HG.out, HX.out⟩ ?_
    clear HB HG HX
    refine q_tab group_findS.tab3 group_findS.bits3 (fun HT_ HW_ => ?_)
    refine q_take (i := 0) (N := some 11) (v := ?_) (a' := ?_) #[true, false, false, false, false, false, false] rfl rfl (take_ofW HT_.out HW_.out (by kernel_rfl)) (by decide) (quiet_val (by rfl) ?_) ?_ ?_
    rotate_left
    · intro _ w_ _
      go_simp
      with_reducible rfl
    rotate_left
    · simp only [Act.put, List.setIfInBounds_toArray, List.set_cons_zero, List.set_cons_succ, i64_w, i32_w, List.getElem_toArray, List.getElem_cons_succ, List.getElem_cons_zero]
      rfl
    refine q_take (i := 1) (N := some 12) (v := ?_) (a' := ?_) #[true, true, false, false, false, false, false] rfl rfl (take_ofW HT_.out HW_.out (by kernel_rfl)) (by decide) (quiet_val (by rfl) ?_) ?_ ?_
    rotate_left
    · intro _ w_ _
      go_simp
      with_reducible rfl
    rotate_left
    · simp only [Act.put, List.setIfInBounds_toArray, List.set_cons_zero, List.set_cons_succ, i64_w, i32_w, List.getElem_toArray, List.getElem_cons_succ, List.getElem_cons_zero]
      rfl
    refine q_take (i := 2) (N := some 13) (v := ?_) (a' := ?_) #[true, true, true, false, false, false, false] rfl rfl (take_ofW HT_.out HW_.out (by kernel_rfl)) (by decide) (quiet_val (by rfl) ?_) ?_ ?_
    rotate_left
    · intro _ w_ _
      go_simp
      with_reducible rfl
    rotate_left
    · simp only [Act.put, List.setIfInBounds_toArray, List.set_cons_zero, List.set_cons_succ, i64_w, i32_w, List.getElem_toArray, List.getElem_cons_succ, List.getElem_cons_zero]
      rfl
    refine q_take (i := 3) (N := some 14) (v := ?_) (a' := ?_) #[true, true, true, true, false, false, false] rfl rfl (take_ofW HT_.out HW_.out (by kernel_rfl)) (by decide) (quiet_val (by rfl) ?_) ?_ ?_
    rotate_left
    · rintro _ w_ ⟨hHB, hHG, hHX⟩
      have HB := Aside0.mk hHB
      have HG := Aside0.mk hHG
      have HX := Aside0.mk hHX
      clear hHB hHG hHX
      have cHG_0 := c3_0 HG.out
      have cHG_1 := c3_1 HG.out
      have cHG_2 := c3_2 HG.out
      have cHX_n := cell_no HX.out
      go_simp
      with_reducible rfl
    rotate_left
    · simp only [Act.put, List.setIfInBounds_toArray, List.set_cons_zero, List.set_cons_succ, i64_w, i32_w, List.getElem_toArray, List.getElem_cons_succ, List.getElem_cons_zero]
      rfl
    refine q_take (i := 4) (N := some 15) (v := ?_) (a' := ?_) #[true, true, true, true, true, false, false] rfl rfl (take_ofW HT_.out HW_.out (by kernel_rfl)) (by decide) (quiet_val (by rfl) ?_) ?_ ?_
    rotate_left
    · intro _ w_ _
      go_simp
      with_reducible rfl
    rotate_left
    · simp only [Act.put, List.setIfInBounds_toArray, List.set_cons_zero, List.set_cons_succ, i64_w, i32_w, List.getElem_toArray, List.getElem_cons_succ, List.getElem_cons_zero]
      rfl
    refine q_take (i := 5) (N := some 16) (v := .int .i64 (Bits.firstS (Bits.bitS sl) (Bits.mostS sl I) (Bits.fromS I f))) (a' := ?_) #[true, true, true, true, true, true, false] rfl rfl (take_ofW HT_.out HW_.out (by kernel_rfl)) (by decide) (quiet_call Try.func47 (by kernel_rfl) rfl #[.slice (some ⟨g4, 17, none⟩) 8 8, .int .i64 I, .int .i64 f] (by rfl) rfl (by (try simp only [List.map_toArray, List.map_cons, List.map_nil]); first | done | rfl) ?_) ?_ ?_
    · rintro _ w_ ⟨hHB, hHG, hHX⟩
      have HB := Aside0.mk hHB
      have HG := Aside0.mk hHG
      have HX := Aside0.mk hHX
      with_reducible refine (first_sl HX.out HH.out I f).mono ?_
      rintro e w_2 ⟨rfl, hb⟩
      exact ⟨rfl, ⟨below_step HB.out hb, blk_below HG.out hb, HeadAt.below HX.out hb⟩⟩
    rotate_left
    · simp only [Act.put, List.setIfInBounds_toArray, List.set_cons_zero, List.set_cons_succ, i64_w, i32_w, List.getElem_toArray, List.getElem_cons_succ, List.getElem_cons_zero]
      rfl
    refine q_take (i := 6) (N := some 6) (v := ?_) (a' := ?_) #[true, true, true, true, true, true, true] rfl rfl (take_ofW HT_.out HW_.out (by kernel_rfl)) (by decide) (quiet_val (by rfl) ?_) ?_ ?_
    rotate_left
    · intro _ w_ _
      go_simp
      with_reducible rfl
    rotate_left
    · simp only [Act.put, List.setIfInBounds_toArray, List.set_cons_zero, List.set_cons_succ, i64_w, i32_w, List.getElem_toArray, List.getElem_cons_succ, List.getElem_cons_zero]
      rfl
    refine q_done (done_of HT_.out (by kernel_rfl)) ?_
    rintro w_ ⟨hHB, hHG, hHX⟩
    have HB := Aside0.mk hHB
    have HG := Aside0.mk hHG
    have HX := Aside0.mk hHX
    clear hHB hHG hHX
    have cHG_0 := c3_0 HG.out
    have cHG_1 := c3_1 HG.out
    have cHG_2 := c3_2 HG.out
    have cHX_n := cell_no HX.out
    go_wp2
    go_ret
    exact ⟨rfl, HB.out⟩
end Go.Proofs.Ytonkgfgciegknaa.P