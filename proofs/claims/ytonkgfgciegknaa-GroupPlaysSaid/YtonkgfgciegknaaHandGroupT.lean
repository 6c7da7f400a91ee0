/-
leveelaw06.taken and same, walked by hand.
Conditions: none.
-/
import Derived.Test.YtonkgfgciegknaaHandGroup9
namespace Go.Proofs.Ytonkgfgciegknaa.P
open Go.RowKit Go.Proofs.YtonkgfgciegknaaW.PrintWords Go.Proofs.YtonkgfgciegknaaW.PrintLast Go.Proofs.YtonkgfgciegknaaW.PrintMore
attribute [local go_sem] max2_int min2_int max_two min_two max_three min_three max_four min_four
set_option linter.unusedVariables false
set_option linter.unusedSimpArgs false
theorem take_rd' (l : List Int) (i : Nat) (h : i < l.length) : l.take (i + 1) = l.take i ++ [rd l (i : Int)] := by
  rw [List.take_succ_eq_append_getElem h]
  simp [rd, h]
theorem HeadAt.alloc {w : World} {g : Nat} {no : Int} {bl sl : List Int} (h : HeadAt w g no bl sl) (o : Obj) : HeadAt (w.alloc o) g no bl sl := blk_alloc h o
theorem HeadAt.rows {w w1 : World} {g : Nat} {no : Int} {bl sl : List Int} {row : Option Nat} (h : HeadAt w g no bl sl) (hg : w.grownBy w1 row) (hn : some g ≠ row) : HeadAt w1 g no bl sl := blk_grown h hg hn
theorem HeadAt.set {w : World} {g : Nat} {no : Int} {bl sl : List Int} (h : HeadAt w g no bl sl) {p : Addr} (hp : g ≠ p.block) (u : Value) : HeadAt (w.setCell p u) g no bl sl := blk_far h hp u
def law06_taken.T5 : Bool × List (List Nat × List Nat) := (true, [([], []), ([0], [0]), ([], []), ([], []), ([3, 2], [2, 3]), ([4], [4]), ([5], [5]), ([1, 6], [1, 6]), ([0, 1, 2, 3, 4, 5, 6, 7], []), ([8, 7, 7, 0, 1, 2, 3, 4, 5, 6, 7], [7, 8])])
def law06_taken.B5 : List Nat := [0, 1, 0, 0, 12, 28, 60, 127, 255, 511]
theorem law06_taken.tab5 : rtab .any (opsOf Try.f7 5) = law06_taken.T5 := by kernel_rfl
theorem law06_taken.bits5 : waitsOk law06_taken.T5.2 law06_taken.B5 = true := by kernel_rfl
def law06_taken.T9 : Bool × List (List Nat × List Nat) := (true, [([], []), ([0], [0]), ([], []), ([], []), ([3, 2], [2, 3]), ([4], [4]), ([5], [5]), ([1, 6], [1, 6]), ([0, 1, 2, 3, 4, 5, 6, 7], []), ([8, 7, 7, 0, 1, 2, 3, 4, 5, 6, 7], [7, 8])])
def law06_taken.B9 : List Nat := [0, 1, 0, 0, 12, 28, 60, 127, 255, 511]
theorem law06_taken.tab9 : rtab .any (opsOf Try.f7 9) = law06_taken.T9 := by kernel_rfl
theorem law06_taken.bits9 : waitsOk law06_taken.T9.2 law06_taken.B9 = true := by kernel_rfl
theorem Row8.rows {w w1 : World} {v : Value} {l : List Int} {row : Option Nat} (h : Row8 w v l) (hg : w.grownBy w1 row) (hn : ∀ k, v.ownBlock = some k → row ≠ some k) : Row8 w1 v l := by
  obtain ⟨h0, h1 | ⟨g, cap, cur, e, h2, h3, h4⟩⟩ := h
  · exact ⟨h0, .inl h1⟩
  · exact ⟨h0, .inr ⟨g, cap, cur, e, h2, blk_grown h3 hg (fun q => hn g (by rw [e]; rfl) q.symm), h4⟩⟩
theorem Row8.own_lt {w : World} {v : Value} {l : List Int} (h : Row8 w v l) : ∀ k, w.heap.size ≤ k → some k ≠ v.ownBlock := by
  obtain ⟨h0, ⟨e, _⟩ | ⟨g, cap, cur, e, h2, h3, h4⟩⟩ := h
  · intro k _ q; rw [e] at q; cases q
  · intro k hk q
    rw [e] at q
    injection q with q
    have q' : k = g := q
    have := blk_lt h3
    omega
set_option maxHeartbeats 16000000 in
set_option maxRecDepth 100000 in
theorem taken_any (no : Int) (bl sl : List Int) (w : World) (hm : HM bl sl) :
    Calls Try.prog 7 #[headV no bl sl] w fun e w' => ∃ (A1 : Option Addr) (c1 : Nat) (A2 : Option Addr) (c2 : Nat), e = .returned (.agg #[.int .i64 no, .slice A1 16 c1, .slice A2 8 c2]) ∧ Row8 w' (.slice A1 16 c1) bl ∧ Row8 w' (.slice A2 8 c2) sl ∧ Below w.heap.size w w' := by
  have HM := Aside0.mk hm.maps
  have HL1 := Aside0.mk hm.maps.1
  have HL2 := Aside0.mk hm.maps.2
  have HB := Aside0.mk (Below.refl w.heap.size w)
  clear hm
  go_enter Try.func7, Try.ntmps7
  go_wp2_with (first
    | ((with_reducible refine gate_dst (N := 1) rfl ?_); go_loud (refine box_event ?hg (N := 1) ?hd (cs := (headC no bl sl).toArray) (t := 28) ?hr ?_; (case hd => rfl); (case hg => rfl); (case hr => kernel_rfl); intro g1 hg w_ hx hb; have GE_HX := Aside0.mk (show w.heap.size ≤ g1 by have := HB.out.size; omega); clear hg; replace HB := Aside0.mk (below_step HB.out hb); clear hb; have HX : Aside0 (HeadAt w_ g1 no bl sl) := ⟨hx⟩; clear hx; have cHX_n := cell_no HX.out))
    | ((with_reducible refine gate_dst (N := 2) rfl ?_); go_loud (refine box_event ?hg (N := 2) ?hd (cs := ([.int .i64 0, .slice none 0 0, .slice none 0 0]).toArray) (t := 31) ?hr ?_; (case hd => rfl); (case hg => rfl); (case hr => first | kernel_rfl | (go_simp; done) | (go_simp; rfl)); intro g2 hg w_ hx hb; have NE_HX_HR := Aside0.mk (new_ne HX.out hg); have GE_HR := Aside0.mk (show w.heap.size ≤ g2 by have := HB.out.size; omega); clear hg; clear cHX_n; replace HB := Aside0.mk (below_step HB.out hb); replace HX := Aside0.mk (HeadAt.below HX.out hb); clear hb; have HR : Aside0 (w_.heap[g2]? = some (.cells #[.int .i64 0, .slice none 0 0, .slice none 0 0] 31 (0, 0))) := ⟨hx⟩; clear hx; have cHX_n := cell_no HX.out; have cHR_0 := c3_0 HR.out; have cHR_1 := c3_1 HR.out; have cHR_2 := c3_2 HR.out))
    | ((with_reducible refine gate_dst (N := 3) rfl ?_); go_loud (refine box_event ?hg (N := 3) ?hd (cs := ([.int .i64 0, .slice none 0 0, .slice none 0 0]).toArray) (t := 31) ?hr ?_; (case hd => rfl); (case hg => rfl); (case hr => first | kernel_rfl | (go_simp; done) | (go_simp; rfl)); intro g3 hg w_ hx hb; have NE_HX_HY := Aside0.mk (new_ne HX.out hg); have NE_HR_HY := Aside0.mk (new_ne HR.out hg); have GE_HY := Aside0.mk (show w.heap.size ≤ g3 by have := HB.out.size; omega); clear hg; clear cHX_n cHR_0 cHR_1 cHR_2; replace HB := Aside0.mk (below_step HB.out hb); replace HX := Aside0.mk (HeadAt.below HX.out hb); replace HR := Aside0.mk (blk_below HR.out hb); clear hb; have HY : Aside0 (w_.heap[g3]? = some (.cells #[.int .i64 0, .slice none 0 0, .slice none 0 0] 31 (0, 0))) := ⟨hx⟩; clear hx; have cHX_n := cell_no HX.out; have cHR_0 := c3_0 HR.out; have cHR_1 := c3_1 HR.out; have cHR_2 := c3_2 HR.out; have cHY_0 := c3_0 HY.out; have cHY_1 := c3_1 HY.out; have cHY_2 := c3_2 HY.out))
    | ((refine gate_store (t := 31) (p := 3) rfl ?_); go_loud (refine store_all (P := Try.prog) (t := 31) (p := 3) (v := .tmp 8) ?hgd ?hN ?ho g3 ([.int .i64 no, .slice none 0 0, .slice none 0 0]) ?hx ?hy _ _ HY.out (info_rec) (rfl) (by intro v_ hv_; simp only [List.mem_cons, List.not_mem_nil, or_false] at hv_; rcases hv_ with rfl | rfl | rfl <;> rfl) w.heap.size w HB.out GE_HY.out ?_; (case hgd => rfl); (case hN => rfl); (case ho => rfl); (case hx => rfl); (case hy => rfl); intro w_ hx_ ho_ hb_; clear cHX_n cHR_0 cHR_1 cHR_2 cHY_0 cHY_1 cHY_2; replace HX := Aside0.mk (HeadAt.other HX.out ho_ NE_HX_HY.out); replace HR := Aside0.mk ((ho_ _ NE_HR_HY.out).trans HR.out); clear HB; have HB := Aside0.mk hb_; clear hb_; clear HY; have HY : Aside0 (w_.heap[g3]? = some (.cells #[.int .i64 no, .slice none 0 0, .slice none 0 0] 31 (0, 0))) := ⟨hx_⟩; clear hx_ ho_; have cHX_n := cell_no HX.out; have cHR_0 := c3_0 HR.out; have cHR_1 := c3_1 HR.out; have cHR_2 := c3_2 HR.out; have cHY_0 := c3_0 HY.out; have cHY_1 := c3_1 HY.out; have cHY_2 := c3_2 HY.out)))
  clear cHX_n cHR_0 cHR_1 cHR_2 cHY_0 cHY_1 cHY_2
  go_loopw [4] (fun v4 wr => ∃ (i : Nat) (u : Value), i ≤ 16 ∧ v4 = .int .i64 i ∧ Aside0 (HeadAt wr g1 no bl sl) ∧ Aside0 (wr.heap[g2]? = some (.cells #[.int .i64 0, .slice none 0 0, .slice none 0 0] 31 (0, 0))) ∧ Aside0 (wr.heap[g3]? = some (.cells #[.int .i64 no, u, .slice none 0 0] 31 (0, 0))) ∧ Aside0 (Kd.R (Kd.int .u8) 5 wr w.heap.size (fun _ => True) u (bl.take i)) ∧ Aside0 (Below w.heap.size w wr)) (fun v4 _ => 16 - (intOf v4).toNat)
  case atStart => exact ⟨0, .slice none 0 0, by omega, rfl, HX, HR, HY, ⟨Kd.R_nil _ _ _ _ _⟩, HB⟩
  case round =>
    clear HX HR HY HB
    obtain ⟨i, u, hi, rfl, HX, HR, HY, HO, HB⟩ := hrel
    by_cases hlt : i < 16
    · go_wp2
      replace HX := Aside0.mk (HeadAt.drew HX.out)
      replace HR := Aside0.mk (blk_drew HR.out)
      replace HY := Aside0.mk (blk_drew HY.out)
      replace HO := Aside0.mk (Kd.R_drew HO.out)
      replace HB := Aside0.mk (below_drew HB.out)
      refine start_ (n := 10) (S := fun w' => w'.cell? ⟨g3, 1, none⟩ = some u ∧ w'.cell? ⟨g1, 1 + i, none⟩ = some (.int .u8 (rd bl (i : Int)))) (ds := [9]) #[false, false, false, false, false, false, false, false, false, false] (by kernel_rfl) rfl rfl ⟨(blk_cell HY.out 1).trans rfl, cell_bl HX.out HM.out i hlt⟩ (fun hHeld => ?_)
      refine with_tabW law06_taken.tab5 law06_taken.bits5 (fun HT_ HW_ => ?_)
      generalize wr.drew = w13 at HX HR HY HO HB hHeld ⊢
      refine pure_ (i := 0) (N := some 13) (v := ?_) (a' := ?_) #[true, false, false, false, false, false, false, false, false, false] rfl rfl (any_of HT_.out (by kernel_rfl)) (fun _ _ _ h => h) (Or.inl ⟨by rfl, ?_⟩) ?_ ?_
      rotate_left
      · intro w'
        go_simp
        with_reducible rfl
      rotate_left
      · simp only [Act.put, List.setIfInBounds_toArray, List.set_cons_zero, List.set_cons_succ, i64_w, i32_w]
        rfl
      refine pure_ (i := 2) (N := some 15) (v := ?_) (a' := ?_) #[true, false, true, false, false, false, false, false, false, false] rfl rfl (any_of HT_.out (by kernel_rfl)) (fun _ _ _ h => h) (Or.inl ⟨by rfl, ?_⟩) ?_ ?_
      rotate_left
      · intro w'
        go_simp
        with_reducible rfl
      rotate_left
      · simp only [Act.put, List.setIfInBounds_toArray, List.set_cons_zero, List.set_cons_succ, i64_w, i32_w]
        rfl
      refine pure_ (i := 3) (N := some 16) (v := ?_) (a' := ?_) #[true, false, true, true, false, false, false, false, false, false] rfl rfl (any_of HT_.out (by kernel_rfl)) (fun _ _ _ h => h) (Or.inl ⟨by rfl, ?_⟩) ?_ ?_
      rotate_left
      · intro w'
        go_simp
        with_reducible rfl
      rotate_left
      · simp only [Act.put, List.setIfInBounds_toArray, List.set_cons_zero, List.set_cons_succ, i64_w, i32_w]
        rfl
      refine pure_ (i := 4) (N := some 17) (v := ?_) (a' := ?_) #[true, false, true, true, true, false, false, false, false, false] rfl rfl (any_of HT_.out (by kernel_rfl)) (fun _ _ _ h => h) (Or.inl ⟨by rfl, ?_⟩) ?_ ?_
      rotate_left
      · intro w'
        go_simp
        with_reducible rfl
      rotate_left
      · simp only [Act.put, List.setIfInBounds_toArray, List.set_cons_zero, List.set_cons_succ, i64_w, i32_w]
        rfl
      refine take_ (i := 1) (N := some 14) (v := ?_) (a' := ?_) #[true, true, true, true, true, false, false, false, false, false] rfl rfl (take_ofW HT_.out HW_.out (by kernel_rfl)) (fun _ _ _ h => h) (Or.inl ⟨by rfl, ?_⟩) hHeld ?_ ?_
      rotate_left
      · rintro w' ⟨s0, s1⟩
        go_simp
        with_reducible rfl
      rotate_left
      · simp only [Act.put, List.setIfInBounds_toArray, List.set_cons_zero, List.set_cons_succ, i64_w, i32_w]
        rfl
      refine take_ (i := 5) (N := some 18) (v := ?_) (a' := ?_) #[true, true, true, true, true, true, false, false, false, false] rfl rfl (take_ofW HT_.out HW_.out (by kernel_rfl)) (fun _ _ _ h => h) (Or.inl ⟨by rfl, ?_⟩) hHeld ?_ ?_
      rotate_left
      · rintro w' ⟨s0, s1⟩
        go_simp
        with_reducible rfl
      rotate_left
      · simp only [Act.put, List.setIfInBounds_toArray, List.set_cons_zero, List.set_cons_succ, i64_w, i32_w]
        rfl
      refine one_ (i := 6) (N := some 19) #[true, true, true, true, true, true, true, false, false, false] rfl rfl (one_of HT_.out (by kernel_rfl)) (by decide) (fun K hK => ?_)
      refine value_ (w1 := ?_) (v := ?_) (by rfl) rfl ?_ ?_
      rotate_left 2
      · go_simp
        constructor
        · rfl
        · rfl
      refine hK.out _ _ ⟨(blk_cell (blk_alloc HY.out _) 1).trans rfl, cell_bl (HeadAt.alloc HX.out _) HM.out i hlt⟩ (fun hHeld => ?_)
      clear hK K
      refine norm_ (a' := ?_) ?_ ?_
      rotate_left
      · show Act.put _ (some 19) _ = _
        simp only [Act.put, List.setIfInBounds_toArray, List.set_cons_zero, List.set_cons_succ, i64_w, i32_w]
        rfl
      refine one_ (i := 7) (N := some 20) #[true, true, true, true, true, true, true, true, false, false] rfl rfl (one_of HT_.out (by kernel_rfl)) (by decide) (fun K hK => ?_)
      refine Kd.R_append_step (Kd.int .u8) (w0 := w) w.heap.size (by rfl) (.tmp 14) (.tmp 19) 24 5 (.int .u8 0) 1 rfl Try.underlying24 info5 rfl (by decide) (by omega) u (bl.take i) (rd bl (i : Int)) [.int .u8 (rd bl (i : Int))] (fun _ => True) (fun _ => False) rfl rfl ?aP (fun _ hk => hk.elim) ?aF ?aO ?aB ?aS ?aL ?_
      (case aP => exact rfl)
      (case aB => exact HB.out)
      (case aF => exact (fun _ _ => trivial))
      (case aO => exact HO.out)
      (case aS => exact below_size HB.out)
      (case aL => have := List.length_take_le i bl; have := HL1.out; omega)
      intro v105 w14 ho hb hg hat
      rw [← take_rd' bl i (by rw [HL1.out]; exact hlt)] at ho
      have n0_ := Aside0.mk (HeadAt.rows HX.out hg (Kd.R_ne HO.out HX.out (by decide)))
      have n1_ := Aside0.mk (blk_grown HR.out hg (Kd.R_ne HO.out HR.out (by decide)))
      have n2_ := Aside0.mk (blk_grown HY.out hg (Kd.R_ne HO.out HY.out (by decide)))
      have n3_ := Aside0.mk hb
      have n4_ := Aside0.mk ho
      clear HX HR HY HB HO
      have HX := n0_
      have HR := n1_
      have HY := n2_
      have HB := n3_
      have HO := n4_
      clear n0_ n1_ n2_ n3_ n4_ ho hb hg hat
      obtain ⟨Ao, co, eo⟩ := Kd.R_slice HO.out
      subst eo
      refine hK.out _ _ ⟨(blk_cell HY.out 1).trans rfl, cell_bl HX.out HM.out i hlt⟩ (fun hHeld => ?_)
      clear hK K
      refine norm_ (a' := ?_) ?_ ?_
      rotate_left
      · show Act.put _ (some 20) _ = _
        simp only [Act.put, List.setIfInBounds_toArray, List.set_cons_zero, List.set_cons_succ, i64_w, i32_w]
        rfl
      refine pure_ (i := 8) (N := some 21) (v := ?_) (a' := ?_) #[true, true, true, true, true, true, true, true, true, false] rfl rfl (any_of HT_.out (by kernel_rfl)) (fun _ _ _ h => h) (Or.inl ⟨by rfl, ?_⟩) ?_ ?_
      rotate_left
      · intro w'
        go_simp
        with_reducible rfl
      rotate_left
      · simp only [Act.put, List.setIfInBounds_toArray, List.set_cons_zero, List.set_cons_succ, i64_w, i32_w]
        rfl
      refine last_ (i := 9) (N := none) #[true, true, true, true, true, true, true, true, true, true] rfl rfl (one_of HT_.out (by kernel_rfl)) (by decide) (fun K hK => ?_)
      have hs16 := (blk_cell HY.out 1).trans (show _ = some (u) from rfl)
      have hfs16 := blk_frozen HY.out 1
      refine skip_ (w1 := ?_) (by rfl) rfl ?_ ?_
      rotate_left
      · go_simp
        rfl
      refine hK.out _ _ ?_
      clear hK K
      refine done_ (done_of HT_.out (by kernel_rfl)) ?_
      go_wp2
      go_roundw
      case rel =>
        have ht_ : (bl.take (i + 1)).length = i + 1 := by rw [List.length_take, HL1.out]; omega
        rw [ht_] at HO
        have hmn_ : min (i + 1) bl.length = i + 1 := by rw [← List.length_take]; exact ht_
        exact ⟨i + 1, .slice Ao (i + 1) co, by omega, by go_num, ⟨HeadAt.set HX.out NE_HX_HY.out _⟩, ⟨blk_far HR.out NE_HR_HY.out _⟩, ⟨blk_put HY.out 1 _ (by rw [hmn_]; rfl)⟩, ⟨Kd.R_mono (Kd.R_far (Kd.R_types HO.out HY.out (by decide)) (fun k hk => hk.2) _) (fun _ _ => trivial)⟩, ⟨below_set HB.out GE_HY.out⟩⟩
      case measure => simp [intOf]; omega
    · obtain rfl : i = 16 := by omega
      rw [List.take_of_length_le (by rw [HL1.out]; exact Nat.le_refl _)] at HO
      have HV := Aside0.mk (Row8.of_R HO.out)
      obtain ⟨V1, d1, hv, _⟩ := HV.out.slice
      rw [HL1.out] at hv
      subst hv
      clear HO
      have HVN := Aside0.mk HV.out.own_lt
      go_wp2
      go_loopw [5] (fun v5 wr => ∃ (i : Nat) (u : Value), i ≤ 8 ∧ v5 = .int .i64 i ∧ Aside0 (HeadAt wr g1 no bl sl) ∧ Aside0 (wr.heap[g2]? = some (.cells #[.int .i64 0, .slice none 0 0, .slice none 0 0] 31 (0, 0))) ∧ Aside0 (wr.heap[g3]? = some (.cells #[.int .i64 no, .slice V1 16 d1, u] 31 (0, 0))) ∧ Aside0 (Kd.R (Kd.int .u8) 5 wr w.heap.size (fun k_ => some k_ ≠ (Value.slice V1 16 d1).ownBlock) u (sl.take i)) ∧ Aside0 (Below w.heap.size w wr) ∧ Aside0 (Row8 wr (.slice V1 16 d1) bl) ∧ Aside0 (∀ k, wr.heap.size ≤ k → some k ≠ (Value.slice V1 16 d1).ownBlock)) (fun v5 _ => 8 - (intOf v5).toNat)
      case atStart => exact ⟨0, .slice none 0 0, by omega, rfl, HX, HR, HY, ⟨Kd.R_nil _ _ _ _ _⟩, HB, HV, HVN⟩
      case round =>
        clear HX HR HY HB HV HVN
        obtain ⟨i, u, hi, rfl, HX, HR, HY, HO, HB, HV, HVN⟩ := hrel
        by_cases hlt : i < 8
        · go_wp2
          replace HX := Aside0.mk (HeadAt.drew HX.out)
          replace HR := Aside0.mk (blk_drew HR.out)
          replace HY := Aside0.mk (blk_drew HY.out)
          replace HO := Aside0.mk (Kd.R_drew HO.out)
          replace HB := Aside0.mk (below_drew HB.out)
          replace HV := Aside0.mk (Row8.drew HV.out)
          refine start_ (n := 10) (S := fun w' => w'.cell? ⟨g3, 2, none⟩ = some u ∧ w'.cell? ⟨g1, 17 + i, none⟩ = some (.int .u8 (rd sl (i : Int)))) (ds := [9]) #[false, false, false, false, false, false, false, false, false, false] (by kernel_rfl) rfl rfl ⟨(blk_cell HY.out 2).trans rfl, cell_sl HX.out HM.out i hlt⟩ (fun hHeld => ?_)
          refine with_tabW law06_taken.tab9 law06_taken.bits9 (fun HT_ HW_ => ?_)
          generalize wr.drew = w13 at HX HR HY HO HB HV hHeld ⊢
          refine pure_ (i := 0) (N := some 26) (v := ?_) (a' := ?_) #[true, false, false, false, false, false, false, false, false, false] rfl rfl (any_of HT_.out (by kernel_rfl)) (fun _ _ _ h => h) (Or.inl ⟨by rfl, ?_⟩) ?_ ?_
          rotate_left
          · intro w'
            go_simp
            with_reducible rfl
          rotate_left
          · simp only [Act.put, List.setIfInBounds_toArray, List.set_cons_zero, List.set_cons_succ, i64_w, i32_w]
            rfl
          refine pure_ (i := 2) (N := some 28) (v := ?_) (a' := ?_) #[true, false, true, false, false, false, false, false, false, false] rfl rfl (any_of HT_.out (by kernel_rfl)) (fun _ _ _ h => h) (Or.inl ⟨by rfl, ?_⟩) ?_ ?_
          rotate_left
          · intro w'
            go_simp
            with_reducible rfl
          rotate_left
          · simp only [Act.put, List.setIfInBounds_toArray, List.set_cons_zero, List.set_cons_succ, i64_w, i32_w]
            rfl
          refine pure_ (i := 3) (N := some 29) (v := ?_) (a' := ?_) #[true, false, true, true, false, false, false, false, false, false] rfl rfl (any_of HT_.out (by kernel_rfl)) (fun _ _ _ h => h) (Or.inl ⟨by rfl, ?_⟩) ?_ ?_
          rotate_left
          · intro w'
            go_simp
            with_reducible rfl
          rotate_left
          · simp only [Act.put, List.setIfInBounds_toArray, List.set_cons_zero, List.set_cons_succ, i64_w, i32_w]
            rfl
          refine pure_ (i := 4) (N := some 30) (v := ?_) (a' := ?_) #[true, false, true, true, true, false, false, false, false, false] rfl rfl (any_of HT_.out (by kernel_rfl)) (fun _ _ _ h => h) (Or.inl ⟨by rfl, ?_⟩) ?_ ?_
          rotate_left
          · intro w'
            go_simp
            with_reducible rfl
          rotate_left
          · simp only [Act.put, List.setIfInBounds_toArray, List.set_cons_zero, List.set_cons_succ, i64_w, i32_w]
            rfl
          refine take_ (i := 1) (N := some 27) (v := ?_) (a' := ?_) #[true, true, true, true, true, false, false, false, false, false] rfl rfl (take_ofW HT_.out HW_.out (by kernel_rfl)) (fun _ _ _ h => h) (Or.inl ⟨by rfl, ?_⟩) hHeld ?_ ?_
          rotate_left
          · rintro w' ⟨s0, s1⟩
            go_simp
            with_reducible rfl
          rotate_left
          · simp only [Act.put, List.setIfInBounds_toArray, List.set_cons_zero, List.set_cons_succ, i64_w, i32_w]
            rfl
          refine take_ (i := 5) (N := some 31) (v := ?_) (a' := ?_) #[true, true, true, true, true, true, false, false, false, false] rfl rfl (take_ofW HT_.out HW_.out (by kernel_rfl)) (fun _ _ _ h => h) (Or.inl ⟨by rfl, ?_⟩) hHeld ?_ ?_
          rotate_left
          · rintro w' ⟨s0, s1⟩
            go_simp
            with_reducible rfl
          rotate_left
          · simp only [Act.put, List.setIfInBounds_toArray, List.set_cons_zero, List.set_cons_succ, i64_w, i32_w]
            rfl
          refine one_ (i := 6) (N := some 32) #[true, true, true, true, true, true, true, false, false, false] rfl rfl (one_of HT_.out (by kernel_rfl)) (by decide) (fun K hK => ?_)
          refine value_ (w1 := ?_) (v := ?_) (by rfl) rfl ?_ ?_
          rotate_left 2
          · go_simp
            constructor
            · rfl
            · rfl
          refine hK.out _ _ ⟨(blk_cell (blk_alloc HY.out _) 2).trans rfl, cell_sl (HeadAt.alloc HX.out _) HM.out i hlt⟩ (fun hHeld => ?_)
          clear hK K
          refine norm_ (a' := ?_) ?_ ?_
          rotate_left
          · show Act.put _ (some 32) _ = _
            simp only [Act.put, List.setIfInBounds_toArray, List.set_cons_zero, List.set_cons_succ, i64_w, i32_w]
            rfl
          refine one_ (i := 7) (N := some 33) #[true, true, true, true, true, true, true, true, false, false] rfl rfl (one_of HT_.out (by kernel_rfl)) (by decide) (fun K hK => ?_)
          refine Kd.R_append_step (Kd.int .u8) (w0 := w) w.heap.size (by rfl) (.tmp 27) (.tmp 32) 24 5 (.int .u8 0) 1 rfl Try.underlying24 info5 rfl (by decide) (by omega) u (sl.take i) (rd sl (i : Int)) [.int .u8 (rd sl (i : Int))] (fun k_ => some k_ ≠ (Value.slice V1 16 d1).ownBlock) (fun _ => False) rfl rfl ?aP (fun _ hk => hk.elim) ?aF ?aO ?aB ?aS ?aL ?_
          (case aP => exact rfl)
          (case aB => exact HB.out)
          (case aF => exact (fun k hk => Row8.own_lt HV.out k hk))
          (case aO => exact HO.out)
          (case aS => exact below_size HB.out)
          (case aL => have := List.length_take_le i sl; have := HL2.out; omega)
          intro v105 w14 ho hb hg hat
          rw [← take_rd' sl i (by rw [HL2.out]; exact hlt)] at ho
          have n0_ := Aside0.mk (HeadAt.rows HX.out hg (Kd.R_ne HO.out HX.out (by decide)))
          have n1_ := Aside0.mk (blk_grown HR.out hg (Kd.R_ne HO.out HR.out (by decide)))
          have n2_ := Aside0.mk (blk_grown HY.out hg (Kd.R_ne HO.out HY.out (by decide)))
          have n3_ := Aside0.mk hb
          have n4_ := Aside0.mk ho
          have n5_ := Aside0.mk (Row8.rows HV.out hg (fun k hk he => HO.out.1 k he hk.symm))
          clear HX HR HY HB HO HV
          have HX := n0_
          have HR := n1_
          have HY := n2_
          have HB := n3_
          have HO := n4_
          have HV := n5_
          clear n0_ n1_ n2_ n3_ n4_ n5_ ho hb hg hat
          obtain ⟨Ao, co, eo⟩ := Kd.R_slice HO.out
          subst eo
          refine hK.out _ _ ⟨(blk_cell HY.out 2).trans rfl, cell_sl HX.out HM.out i hlt⟩ (fun hHeld => ?_)
          clear hK K
          refine norm_ (a' := ?_) ?_ ?_
          rotate_left
          · show Act.put _ (some 33) _ = _
            simp only [Act.put, List.setIfInBounds_toArray, List.set_cons_zero, List.set_cons_succ, i64_w, i32_w]
            rfl
          refine pure_ (i := 8) (N := some 34) (v := ?_) (a' := ?_) #[true, true, true, true, true, true, true, true, true, false] rfl rfl (any_of HT_.out (by kernel_rfl)) (fun _ _ _ h => h) (Or.inl ⟨by rfl, ?_⟩) ?_ ?_
          rotate_left
          · intro w'
            go_simp
            with_reducible rfl
          rotate_left
          · simp only [Act.put, List.setIfInBounds_toArray, List.set_cons_zero, List.set_cons_succ, i64_w, i32_w]
            rfl
          refine last_ (i := 9) (N := none) #[true, true, true, true, true, true, true, true, true, true] rfl rfl (one_of HT_.out (by kernel_rfl)) (by decide) (fun K hK => ?_)
          have hs16 := (blk_cell HY.out 2).trans (show _ = some (u) from rfl)
          have hfs16 := blk_frozen HY.out 2
          refine skip_ (w1 := ?_) (by rfl) rfl ?_ ?_
          rotate_left
          · go_simp
            rfl
          refine hK.out _ _ ?_
          clear hK K
          refine done_ (done_of HT_.out (by kernel_rfl)) ?_
          go_wp2
          go_roundw
          case rel =>
            have ht_ : (sl.take (i + 1)).length = i + 1 := by rw [List.length_take, HL2.out]; omega
            rw [ht_] at HO
            have hmn_ : min (i + 1) sl.length = i + 1 := by rw [← List.length_take]; exact ht_
            exact ⟨i + 1, .slice Ao (i + 1) co, by omega, by go_num, ⟨HeadAt.set HX.out NE_HX_HY.out _⟩, ⟨blk_far HR.out NE_HR_HY.out _⟩, ⟨blk_put HY.out 2 _ (by rw [hmn_]; rfl)⟩, ⟨Kd.R_mono (Kd.R_far (Kd.R_types HO.out HY.out (by decide)) (fun k hk => hk.2) _) (fun _ hk => hk.1)⟩, ⟨below_set HB.out GE_HY.out⟩, ⟨Row8.cell HV.out HY.out (by decide) 2 _⟩, ⟨fun k hk => Row8.own_lt HV.out k (by simpa [World.setCell] using hk)⟩⟩
          case measure => simp [intOf]; omega
        · obtain rfl : i = 8 := by omega
          rw [List.take_of_length_le (by rw [HL2.out]; exact Nat.le_refl _)] at HO
          have HV2 := Aside0.mk (Row8.of_R HO.out)
          obtain ⟨V2, d2, hv, _⟩ := HV2.out.slice
          rw [HL2.out] at hv
          subst hv
          clear HO HVN
          have cHX_n := cell_no HX.out
          have cHR_0 := c3_0 HR.out
          have cHR_1 := c3_1 HR.out
          have cHR_2 := c3_2 HR.out
          have cHY_0 := c3_0 HY.out
          have cHY_1 := c3_1 HY.out
          have cHY_2 := c3_2 HY.out
          go_wp2_with (first
              | ((refine gate_store (t := 31) (p := 2) rfl ?_); go_loud (refine store_all (P := Try.prog) (t := 31) (p := 2) (v := .tmp 35) ?hgd ?hN ?ho g2 ([.int .i64 no, .slice V1 16 d1, .slice V2 8 d2]) ?hx ?hy _ _ HR.out (info_rec) (rfl) (by intro v_ hv_; simp only [List.mem_cons, List.not_mem_nil, or_false] at hv_; rcases hv_ with rfl | rfl | rfl <;> rfl) w.heap.size w HB.out GE_HR.out ?_; (case hgd => rfl); (case hN => rfl); (case ho => rfl); (case hx => rfl); (case hy => rfl); intro w_ hx_ ho_ hb_; clear cHX_n cHR_0 cHR_1 cHR_2 cHY_0 cHY_1 cHY_2; replace HX := Aside0.mk (HeadAt.other HX.out ho_ NE_HX_HR.out); replace HY := Aside0.mk ((ho_ _ (Ne.symm NE_HR_HY.out)).trans HY.out); replace HV := Aside0.mk (Row8.other HV.out HR.out (by decide) ho_); replace HV2 := Aside0.mk (Row8.other HV2.out HR.out (by decide) ho_); clear HB; have HB := Aside0.mk hb_; clear hb_; clear HR; have HR : Aside0 (w_.heap[g2]? = some (.cells #[.int .i64 no, .slice V1 16 d1, .slice V2 8 d2] 31 (0, 0))) := ⟨hx_⟩; clear hx_ ho_; have cHX_n := cell_no HX.out; have cHR_0 := c3_0 HR.out; have cHR_1 := c3_1 HR.out; have cHR_2 := c3_2 HR.out; have cHY_0 := c3_0 HY.out; have cHY_1 := c3_1 HY.out; have cHY_2 := c3_2 HY.out)))
          refine bodyPost_ret (results_c1 rfl _ _ g2 _ _ (0, 0) _ rfl HR.out Try.underlying31 rfl (by kernel_rfl)) rfl ?_
          exact ⟨V1, d1, V2, d2, rfl, HV.out, HV2.out, HB.out⟩
end Go.Proofs.Ytonkgfgciegknaa.P