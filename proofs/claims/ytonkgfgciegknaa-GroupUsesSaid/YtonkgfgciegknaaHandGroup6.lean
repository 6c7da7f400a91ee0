/-
group.UseBlock, UseSlot, walked by hand.
Conditions: none.
-/
import Derived.Test.YtonkgfgciegknaaHandGroup5
namespace Go.Proofs.Ytonkgfgciegknaa.P
open Go.RowKit Go.Proofs.YtonkgfgciegknaaW.PrintWords Go.Proofs.YtonkgfgciegknaaW.PrintLast Go.Proofs.YtonkgfgciegknaaW.PrintMore
attribute [local go_sem] max2_int min2_int max_two min_two max_three min_three max_four min_four
set_option linter.unusedVariables false
set_option linter.unusedSimpArgs false
theorem use_bl_eq (no : Int) (bl sl : List Int) (g i : Nat) (on : Bool) (w : World) (hm : HM bl sl) (hx : HeadAt w g no bl sl) (hi : i < 128) (h : Bits.bitS bl i = on) :
    Calls Try.prog 45 #[.slice (some ⟨g, 1, none⟩) 16 16, .int .i64 (i : Int), .bool on] w fun e w' => e = .returned (.int .i64 6) ∧ Below w.heap.size w w' :=
  (use_bl no bl sl g i on w hm hx hi).mono fun e w' q => q.elim (fun q => ⟨q.2.1, q.2.2⟩) (fun q => absurd h q.1)
theorem use_bl_ne (no : Int) (bl sl : List Int) (g i : Nat) (on : Bool) (w : World) (hm : HM bl sl) (hx : HeadAt w g no bl sl) (hi : i < 128) (h : Bits.bitS bl i ≠ on) :
    Calls Try.prog 45 #[.slice (some ⟨g, 1, none⟩) 16 16, .int .i64 (i : Int), .bool on] w fun e w' => e = .returned (.int .i64 0) ∧ HeadAt w' g no (Bits.setS bl i on) sl ∧ w.grownBy w' (some g) :=
  (use_bl no bl sl g i on w hm hx hi).mono fun e w' q => q.elim (fun q => absurd q.1 h) (fun q => ⟨q.2.1, q.2.2.1, q.2.2.2⟩)
theorem use_sl_eq (no : Int) (bl sl : List Int) (g i : Nat) (on : Bool) (w : World) (hm : HM bl sl) (hx : HeadAt w g no bl sl) (hi : i < 64) (h : Bits.bitS sl i = on) :
    Calls Try.prog 45 #[.slice (some ⟨g, 17, none⟩) 8 8, .int .i64 (i : Int), .bool on] w fun e w' => e = .returned (.int .i64 6) ∧ Below w.heap.size w w' :=
  (use_sl no bl sl g i on w hm hx hi).mono fun e w' q => q.elim (fun q => ⟨q.2.1, q.2.2⟩) (fun q => absurd h q.1)
theorem use_sl_ne (no : Int) (bl sl : List Int) (g i : Nat) (on : Bool) (w : World) (hm : HM bl sl) (hx : HeadAt w g no bl sl) (hi : i < 64) (h : Bits.bitS sl i ≠ on) :
    Calls Try.prog 45 #[.slice (some ⟨g, 17, none⟩) 8 8, .int .i64 (i : Int), .bool on] w fun e w' => e = .returned (.int .i64 0) ∧ HeadAt w' g no bl (Bits.setS sl i on) ∧ w.grownBy w' (some g) :=
  (use_sl no bl sl g i on w hm hx hi).mono fun e w' q => q.elim (fun q => absurd q.1 h) (fun q => ⟨q.2.1, q.2.2.1, q.2.2.2⟩)
theorem run_loadH {op : Oper} {ev : Operand → Value} {w : World} {g : Nat} {no : Int} {bl sl : List Int} (x : Operand) (ho : op.op = .load 28 x) (hx : ev x = .pointer (some ⟨g, 0, none⟩)) (hg : HeadAt w g no bl sl) (hm : Maps bl sl) : (execOp ev op).run Try.prog w = .ok (.value (headV no bl sl)) w := by
  unfold execOp
  simp only [ho, hx, Sem.run_bind, load_head hg hm, Result.andThen_ok, Sem.run_pure]
theorem grown_blk {w w1 : World} {g k : Nat} {o : Obj} (h : w.heap[k]? = some o) (hg : w.grownBy w1 (some g)) (hn : k ≠ g) : w1.heap[k]? = some o := (hg.block k (blk_lt h) (by intro e; injection e with e; exact hn e)).trans h
theorem HeadAt.grown {w w1 : World} {g k : Nat} {no : Int} {bl sl : List Int} (h : HeadAt w k no bl sl) (hg : w.grownBy w1 (some g)) (hn : k ≠ g) : HeadAt w1 k no bl sl := grown_blk h hg hn
theorem grown_below {w0 w w1 : World} {g : Nat} (h : Below w0.heap.size w0 w) (hg : w.grownBy w1 (some g)) (hb : w0.heap.size ≤ g) : Below w0.heap.size w0 w1 := pw_below_grown h (some g) h.size hg (fun k e => by injection e with e; omega)
theorem set_maps_b {bl sl : List Int} (h : Maps bl sl) (i : Nat) (on : Bool) : Maps (Bits.setS bl i on) sl := ⟨by rw [Bits.setS_length]; exact h.1, h.2⟩
theorem set_maps_s {bl sl : List Int} (h : Maps bl sl) (i : Nat) (on : Bool) : Maps bl (Bits.setS sl i on) := ⟨h.1, by rw [Bits.setS_length]; exact h.2⟩
/-- What UseBlock, UseSlot tell. -/
def useBP (G I N no : Int) (bl sl : List Int) (i : Int) (on : Bool) : Int × List Int × List Int × Int :=
  if mayP (rightP G I N no bl sl) i (wrap64 (1 + Geo.tablesS G I N)) G = 0 then (if Bits.bitZ bl i = on then (0, zeros 16, zeros 8, 6) else (no, Bits.setS bl i.toNat on, sl, 0))
  else (0, zeros 16, zeros 8, mayP (rightP G I N no bl sl) i (wrap64 (1 + Geo.tablesS G I N)) G)
def useSP (G I N no : Int) (bl sl : List Int) (i : Int) (on : Bool) : Int × List Int × List Int × Int :=
  if mayP (rightP G I N no bl sl) i (if no = 0 then 2 else 0) I = 0 then (if Bits.bitZ sl i = on then (0, zeros 16, zeros 8, 6) else (no, bl, Bits.setS sl i.toNat on, 0))
  else (0, zeros 16, zeros 8, mayP (rightP G I N no bl sl) i (if no = 0 then 2 else 0) I)
theorem rightP_R {G I N no : Int} {bl sl : List Int} (h : rightP G I N no bl sl = true) : Geo.R G I N = true := by
  unfold rightP okS at h
  simp only [Bool.and_eq_true] at h
  exact h.1.1.1
theorem mayP_zero {r : Bool} {i a b : Int} (h : mayP r i a b = 0) : r = true ∧ a ≤ i ∧ i < b := by
  unfold mayP at h
  by_cases hr : r = true
  · rw [if_pos hr] at h
    by_cases h1 : i < a
    · rw [if_pos h1] at h; cases h
    · rw [if_neg h1] at h
      by_cases h2 : b ≤ i
      · rw [if_pos h2] at h; cases h
      · exact ⟨hr, by omega, by omega⟩
  · rw [if_neg hr] at h; cases h
def group_UseB.T1 : Bool × List (List Nat × List Nat) := (true, [([], []), ([], []), ([], []), ([], []), ([3], [3]), ([4], [4]), ([], []), ([6], [6]), ([0, 1, 2, 5, 7, 4], [0, 1, 2, 5, 7]), ([8, 8, 0, 1, 2, 3, 4, 5, 6, 7, 8], [8])])
def group_UseB.B1 : List Nat := [0, 0, 0, 0, 8, 24, 0, 64, 255, 511]
theorem group_UseB.tab1 : rtab .any (opsOf Try.f20 1) = group_UseB.T1 := by kernel_rfl
theorem group_UseB.bits1 : waitsOk group_UseB.T1.2 group_UseB.B1 = true := by kernel_rfl
set_option maxHeartbeats 16000000 in
set_option maxRecDepth 100000 in
theorem useB_any (G I N no : Int) (bl sl : List Int) (i : Int) (on : Bool) (w : World) (hm : HM bl sl) :
    Calls Try.prog 20 #[.agg #[.int .i64 G, .int .i64 I, .int .i64 N], headV no bl sl, .int .i64 i, .bool on] w fun e w' => e = .returned (.tuple #[headV (useBP G I N no bl sl i on).1 (useBP G I N no bl sl i on).2.1 (useBP G I N no bl sl i on).2.2.1, .int .i64 (useBP G I N no bl sl i on).2.2.2]) ∧ Below w.heap.size w w' := by
  have HH := Aside0.mk hm
  have HM := Aside0.mk hm.maps
  have HZ := Aside0.mk zeros_maps
  obtain ⟨tb, htb⟩ : ∃ t, t = Geo.tablesS G I N := ⟨_, rfl⟩
  have HT : Aside0 (geo_Tables.f 2 G I N = some tb) := ⟨by rw [Geo.Tables_eq 0, htb]⟩
  obtain ⟨m, hmay⟩ : ∃ m, m = mayP (rightP G I N no bl sl) i (wrap64 (1 + tb)) G := ⟨_, rfl⟩
  have MA := Aside0.mk (fun (w : World) => may_any G I N no bl sl i (wrap64 (1 + tb)) G w hm)
  have hi : m = 0 → ∃ n : Nat, (n : Int) = i ∧ n < 128 := by
    intro h0
    rw [hmay] at h0
    obtain ⟨hr, h1, h2⟩ := mayP_zero h0
    have hR := rightP_R hr
    have hq := Geo.R_iff.mp hR
    rw [htb, Geo.tablesS, if_pos hR] at h1
    unfold wrap64 at h1
    exact ⟨i.toNat, by omega, by omega⟩
  unfold useBP
  rw [← htb, ← hmay]
  rw [← hmay] at MA
  clear htb
  by_cases h0 : m = 0
  · obtain ⟨n, rfl, hn⟩ := hi h0
    subst h0
    rw [if_pos rfl]
    have HN := Aside0.mk hn
    have HZM := Aside0.mk hmay.symm
    have HM2 := Aside0.mk (set_maps_b hm.maps n on)
    rw [Bits.bitZ_nat, Int.toNat_natCast]
    clear hm hi hmay hn
    by_cases hbit : Bits.bitS bl n = on
    · rw [if_pos hbit]
      have HBIT := Aside0.mk hbit
      clear hbit
      have HB := Aside0.mk (Below.refl w.heap.size w)
      go_enter Try.func20, Try.ntmps20
      go_wp2_with (first
          | ((with_reducible refine gate_dst (N := 4) rfl ?_); go_loud (refine box_event ?hg (N := 4) ?hd (cs := ([.int .i64 G, .int .i64 I, .int .i64 N]).toArray) (t := 23) ?hr ?_; (case hd => rfl); (case hg => rfl); (case hr => first | kernel_rfl | (go_simp; done) | (go_simp; rfl)); intro g4 hg w_ hx hb; have GE_HG := Aside0.mk (show w.heap.size ≤ g4 by have := HB.out.size; omega); clear hg; replace HB := Aside0.mk (below_step HB.out hb); clear hb; have HG : Aside0 (w_.heap[g4]? = some (.cells #[.int .i64 G, .int .i64 I, .int .i64 N] 23 (0, 0))) := ⟨hx⟩; clear hx; have cHG_0 := c3_0 HG.out; have cHG_1 := c3_1 HG.out; have cHG_2 := c3_2 HG.out))
          | ((with_reducible refine gate_dst (N := 5) rfl ?_); go_loud (refine box_event ?hg (N := 5) ?hd (cs := (headC no bl sl).toArray) (t := 28) ?hr ?_; (case hd => rfl); (case hg => rfl); (case hr => kernel_rfl); intro g5 hg w_ hx hb; have NE_HG_HX := Aside0.mk (new_ne HG.out hg); have GE_HX := Aside0.mk (show w.heap.size ≤ g5 by have := HB.out.size; omega); clear hg; clear cHG_0 cHG_1 cHG_2; replace HB := Aside0.mk (below_step HB.out hb); replace HG := Aside0.mk (blk_below HG.out hb); clear hb; have HX : Aside0 (HeadAt w_ g5 no bl sl) := ⟨hx⟩; clear hx; have cHG_0 := c3_0 HG.out; have cHG_1 := c3_1 HG.out; have cHG_2 := c3_2 HG.out; have cHX_n := cell_no HX.out))
          | ((with_reducible refine gate_dst (N := 8) rfl ?_); go_loud (refine box_event ?hg (N := 8) ?hd (cs := (headC 0 (zeros 16) (zeros 8)).toArray) (t := 28) ?hr ?_; (case hd => rfl); (case hg => rfl); (case hr => kernel_rfl); intro g8 hg w_ hx hb; have NE_HG_HY := Aside0.mk (new_ne HG.out hg); have NE_HX_HY := Aside0.mk (new_ne HX.out hg); have GE_HY := Aside0.mk (show w.heap.size ≤ g8 by have := HB.out.size; omega); clear hg; clear cHG_0 cHG_1 cHG_2 cHX_n; replace HB := Aside0.mk (below_step HB.out hb); replace HG := Aside0.mk (blk_below HG.out hb); replace HX := Aside0.mk (HeadAt.below HX.out hb); clear hb; have HY : Aside0 (HeadAt w_ g8 0 (zeros 16) (zeros 8)) := ⟨hx⟩; clear hx; have cHG_0 := c3_0 HG.out; have cHG_1 := c3_1 HG.out; have cHG_2 := c3_2 HG.out; have cHX_n := cell_no HX.out; have cHY_n := cell_no HY.out)))
      clear cHG_0 cHG_1 cHG_2 cHX_n cHY_n
      replace HB := Aside0.mk (below_drew HB.out)
      replace HG := Aside0.mk (blk_drew HG.out)
      replace HX := Aside0.mk (HeadAt.drew HX.out)
      replace HY := Aside0.mk (HeadAt.drew HY.out)
      refine q_start (n := 10) (S := fun (_ : Unit) w_ => Below w.heap.size w w_ ∧ w_.heap[g4]? = some (.cells #[.int .i64 G, .int .i64 I, .int .i64 N] 23 (0, 0)) ∧ HeadAt w_ g5 no bl sl ∧ HeadAt w_ g8 0 (zeros 16) (zeros 8)) (ds := []) () #[false, false, false, false, false, false, false, false, false, false] (by kernel_rfl) rfl rfl ⟨HB.out, HG.out, HX.out, HY.out⟩ ?_
      clear HB HG HX HY
      refine q_tab group_UseB.tab1 group_UseB.bits1 (fun HT_ HW_ => ?_)
      refine q_take (i := 0) (N := some 11) (v := ?_) (a' := ?_) #[true, false, false, false, false, false, false, false, false, false] rfl rfl (take_ofW HT_.out HW_.out (by kernel_rfl)) (by decide) (quiet_val (by rfl) ?_) ?_ ?_
      rotate_left
      · rintro _ w_ ⟨hHB, hHG, hHX, hHY⟩
        have HB := Aside0.mk hHB
        have HG := Aside0.mk hHG
        have HX := Aside0.mk hHX
        have HY := Aside0.mk hHY
        clear hHB hHG hHX hHY
        have cHG_0 := c3_0 HG.out
        have cHG_1 := c3_1 HG.out
        have cHG_2 := c3_2 HG.out
        have cHX_n := cell_no HX.out
        have cHY_n := cell_no HY.out
        go_simp
        with_reducible rfl
      rotate_left
      · simp only [Act.put, List.setIfInBounds_toArray, List.set_cons_zero, List.set_cons_succ, i64_w, i32_w, List.getElem_toArray, List.getElem_cons_succ, List.getElem_cons_zero]
        rfl
      refine q_take (i := 1) (N := some 12) (v := headV no bl sl) (a' := ?_) #[true, true, false, false, false, false, false, false, false, false] rfl rfl (take_ofW HT_.out HW_.out (by kernel_rfl)) (by decide) (quiet_val (by rfl) ?_) ?_ ?_
      · rintro _ w_ ⟨hHB, hHG, hHX, hHY⟩
        have HB := Aside0.mk hHB
        have HG := Aside0.mk hHG
        have HX := Aside0.mk hHX
        have HY := Aside0.mk hHY
        clear hHB hHG hHX hHY
        have cHG_0 := c3_0 HG.out
        have cHG_1 := c3_1 HG.out
        have cHG_2 := c3_2 HG.out
        have cHX_n := cell_no HX.out
        have cHY_n := cell_no HY.out
        exact run_loadH (.tmp 5) rfl rfl HX.out HM.out
      rotate_left
      · simp only [Act.put, List.setIfInBounds_toArray, List.set_cons_zero, List.set_cons_succ, i64_w, i32_w, List.getElem_toArray, List.getElem_cons_succ, List.getElem_cons_zero]
        rfl
      refine q_take (i := 2) (N := some 13) (v := ?_) (a' := ?_) #[true, true, true, false, false, false, false, false, false, false] rfl rfl (take_ofW HT_.out HW_.out (by kernel_rfl)) (by decide) (quiet_val (by rfl) ?_) ?_ ?_
      rotate_left
      · intro _ w_ _
        go_simp
        with_reducible rfl
      rotate_left
      · simp only [Act.put, List.setIfInBounds_toArray, List.set_cons_zero, List.set_cons_succ, i64_w, i32_w, List.getElem_toArray, List.getElem_cons_succ, List.getElem_cons_zero]
        rfl
      refine q_take (i := 3) (N := some 14) (v := ?_) (a' := ?_) #[true, true, true, true, false, false, false, false, false, false] rfl rfl (take_ofW HT_.out HW_.out (by kernel_rfl)) (by decide) (quiet_val (by rfl) ?_) ?_ ?_
      rotate_left
      · rintro _ w_ ⟨hHB, hHG, hHX, hHY⟩
        have HB := Aside0.mk hHB
        have HG := Aside0.mk hHG
        have HX := Aside0.mk hHX
        have HY := Aside0.mk hHY
        clear hHB hHG hHX hHY
        have cHG_0 := c3_0 HG.out
        have cHG_1 := c3_1 HG.out
        have cHG_2 := c3_2 HG.out
        have cHX_n := cell_no HX.out
        have cHY_n := cell_no HY.out
        go_simp
        with_reducible rfl
      rotate_left
      · simp only [Act.put, List.setIfInBounds_toArray, List.set_cons_zero, List.set_cons_succ, i64_w, i32_w, List.getElem_toArray, List.getElem_cons_succ, List.getElem_cons_zero]
        rfl
      refine q_take (i := 4) (N := some 15) (v := .int .i64 tb) (a' := ?_) #[true, true, true, true, true, false, false, false, false, false] rfl rfl (take_ofW HT_.out HW_.out (by kernel_rfl)) (by decide) (quiet_call Try.func44 (by kernel_rfl) rfl #[.agg #[.int .i64 G, .int .i64 I, .int .i64 N]] (by rfl) rfl (by (try simp only [List.map_toArray, List.map_cons, List.map_nil]); first | done | rfl) ?_) ?_ ?_
      · rintro _ w_ ⟨hHB, hHG, hHX, hHY⟩
        have HB := Aside0.mk hHB
        have HG := Aside0.mk hHG
        have HX := Aside0.mk hHX
        have HY := Aside0.mk hHY
        with_reducible refine (geo_Tables.calls 2 G I N tb _ HT.out).mono ?_
        rintro e w_2 ⟨rfl, hb⟩
        exact ⟨rfl, ⟨below_step HB.out hb, blk_below HG.out hb, HeadAt.below HX.out hb, HeadAt.below HY.out hb⟩⟩
      rotate_left
      · simp only [Act.put, List.setIfInBounds_toArray, List.set_cons_zero, List.set_cons_succ, i64_w, i32_w, List.getElem_toArray, List.getElem_cons_succ, List.getElem_cons_zero]
        rfl
      refine q_take (i := 5) (N := some 16) (v := ?_) (a' := ?_) #[true, true, true, true, true, true, false, false, false, false] rfl rfl (take_ofW HT_.out HW_.out (by kernel_rfl)) (by decide) (quiet_val (by rfl) ?_) ?_ ?_
      rotate_left
      · intro _ w_ _
        go_simp
        with_reducible rfl
      rotate_left
      · simp only [Act.put, List.setIfInBounds_toArray, List.set_cons_zero, List.set_cons_succ, i64_w, i32_w, List.getElem_toArray, List.getElem_cons_succ, List.getElem_cons_zero]
        rfl
      refine q_take (i := 6) (N := some 17) (v := ?_) (a' := ?_) #[true, true, true, true, true, true, true, false, false, false] rfl rfl (take_ofW HT_.out HW_.out (by kernel_rfl)) (by decide) (quiet_val (by rfl) ?_) ?_ ?_
      rotate_left
      · intro _ w_ _
        go_simp
        with_reducible rfl
      rotate_left
      · simp only [Act.put, List.setIfInBounds_toArray, List.set_cons_zero, List.set_cons_succ, i64_w, i32_w, List.getElem_toArray, List.getElem_cons_succ, List.getElem_cons_zero]
        rfl
      refine q_take (i := 7) (N := some 18) (v := ?_) (a' := ?_) #[true, true, true, true, true, true, true, true, false, false] rfl rfl (take_ofW HT_.out HW_.out (by kernel_rfl)) (by decide) (quiet_val (by rfl) ?_) ?_ ?_
      rotate_left
      · rintro _ w_ ⟨hHB, hHG, hHX, hHY⟩
        have HB := Aside0.mk hHB
        have HG := Aside0.mk hHG
        have HX := Aside0.mk hHX
        have HY := Aside0.mk hHY
        clear hHB hHG hHX hHY
        have cHG_0 := c3_0 HG.out
        have cHG_1 := c3_1 HG.out
        have cHG_2 := c3_2 HG.out
        have cHX_n := cell_no HX.out
        have cHY_n := cell_no HY.out
        go_simp
        with_reducible rfl
      rotate_left
      · simp only [Act.put, List.setIfInBounds_toArray, List.set_cons_zero, List.set_cons_succ, i64_w, i32_w, List.getElem_toArray, List.getElem_cons_succ, List.getElem_cons_zero]
        rfl
      refine q_take (i := 8) (N := some 19) (v := .int .i64 0) (a' := ?_) #[true, true, true, true, true, true, true, true, true, false] rfl rfl (take_ofW HT_.out HW_.out (by kernel_rfl)) (by decide) (quiet_call Try.func43 (by kernel_rfl) rfl #[.agg #[.int .i64 G, .int .i64 I, .int .i64 N], headV no bl sl, .int .i64 (n : Int), .int .i64 (wrap64 (1 + tb)), .int .i64 G] (by rfl) rfl (by (try simp only [List.map_toArray, List.map_cons, List.map_nil]); first | done | rfl) ?_) ?_ ?_
      · rintro _ w_ ⟨hHB, hHG, hHX, hHY⟩
        have HB := Aside0.mk hHB
        have HG := Aside0.mk hHG
        have HX := Aside0.mk hHX
        have HY := Aside0.mk hHY
        with_reducible refine (MA.out _).mono ?_
        rintro e w_2 ⟨rfl, hb⟩
        exact ⟨rfl, ⟨below_step HB.out hb, blk_below HG.out hb, HeadAt.below HX.out hb, HeadAt.below HY.out hb⟩⟩
      rotate_left
      · simp only [Act.put, List.setIfInBounds_toArray, List.set_cons_zero, List.set_cons_succ, i64_w, i32_w, List.getElem_toArray, List.getElem_cons_succ, List.getElem_cons_zero]
        rfl
      refine q_take (i := 9) (N := some 10) (v := ?_) (a' := ?_) #[true, true, true, true, true, true, true, true, true, true] rfl rfl (take_ofW HT_.out HW_.out (by kernel_rfl)) (by decide) (quiet_val (by rfl) ?_) ?_ ?_
      rotate_left
      · intro _ w_ _
        go_simp
        with_reducible rfl
      rotate_left
      · simp only [Act.put, List.setIfInBounds_toArray, List.set_cons_zero, List.set_cons_succ, i64_w, i32_w, List.getElem_toArray, List.getElem_cons_succ, List.getElem_cons_zero]
        rfl
      refine q_done (done_of HT_.out (by kernel_rfl)) ?_
      rintro w_ ⟨hHB, hHG, hHX, hHY⟩
      have HB := Aside0.mk hHB
      have HG := Aside0.mk hHG
      have HX := Aside0.mk hHX
      have HY := Aside0.mk hHY
      clear hHB hHG hHX hHY
      have cHG_0 := c3_0 HG.out
      have cHG_1 := c3_1 HG.out
      have cHG_2 := c3_2 HG.out
      have cHX_n := cell_no HX.out
      have cHY_n := cell_no HY.out
      go_wp2_with (first
          | (go_at_call 45; go_loud (with_reducible refine (use_bl_eq no bl sl g5 n on _ HH.out HX.out HN.out HBIT.out).mono ?_; rintro e w_ ⟨rfl, hb⟩; clear cHG_0 cHG_1 cHG_2 cHX_n cHY_n; replace HB := Aside0.mk (below_step HB.out hb); replace HG := Aside0.mk (blk_below HG.out hb); replace HX := Aside0.mk (HeadAt.below HX.out hb); replace HY := Aside0.mk (HeadAt.below HY.out hb); clear hb; have cHG_0 := c3_0 HG.out; have cHG_1 := c3_1 HG.out; have cHG_2 := c3_2 HG.out; have cHX_n := cell_no HX.out; have cHY_n := cell_no HY.out))
          | ((refine gate_store (t := 28) (p := 8) rfl ?_); go_loud (refine store_all (P := Try.prog) (t := 28) (p := 8) (v := .tmp 29) ?hgd ?hN ?ho g8 (headC 0 (zeros 16) (zeros 8)) ?hx ?hy _ _ HY.out (hi_head HZ.out) (hold_head HZ.out HZ.out) (head_one _ _ _) w.heap.size w HB.out GE_HY.out ?_; (case hgd => rfl); (case hN => rfl); (case ho => rfl); (case hx => rfl); (case hy => rfl); intro w_ hx_ ho_ hb_; clear cHG_0 cHG_1 cHG_2 cHX_n cHY_n; replace HG := Aside0.mk ((ho_ _ NE_HG_HY.out).trans HG.out); replace HX := Aside0.mk (HeadAt.other HX.out ho_ NE_HX_HY.out); clear HB; have HB := Aside0.mk hb_; clear hb_; clear HY; have HY : Aside0 (HeadAt w_ g8 0 (zeros 16) (zeros 8)) := ⟨hx_⟩; clear hx_ ho_; have cHG_0 := c3_0 HG.out; have cHG_1 := c3_1 HG.out; have cHG_2 := c3_2 HG.out; have cHX_n := cell_no HX.out; have cHY_n := cell_no HY.out)))
      refine bodyPost_ret (ret_head_t rfl _ _ g8 rfl HY.out HZ.out) rfl ?_
      exact ⟨rfl, HB.out⟩
    · rw [if_neg hbit]
      have HBIT := Aside0.mk hbit
      clear hbit
      have HB := Aside0.mk (Below.refl w.heap.size w)
      go_enter Try.func20, Try.ntmps20
      go_wp2_with (first
          | ((with_reducible refine gate_dst (N := 4) rfl ?_); go_loud (refine box_event ?hg (N := 4) ?hd (cs := ([.int .i64 G, .int .i64 I, .int .i64 N]).toArray) (t := 23) ?hr ?_; (case hd => rfl); (case hg => rfl); (case hr => first | kernel_rfl | (go_simp; done) | (go_simp; rfl)); intro g4 hg w_ hx hb; have GE_HG := Aside0.mk (show w.heap.size ≤ g4 by have := HB.out.size; omega); clear hg; replace HB := Aside0.mk (below_step HB.out hb); clear hb; have HG : Aside0 (w_.heap[g4]? = some (.cells #[.int .i64 G, .int .i64 I, .int .i64 N] 23 (0, 0))) := ⟨hx⟩; clear hx; have cHG_0 := c3_0 HG.out; have cHG_1 := c3_1 HG.out; have cHG_2 := c3_2 HG.out))
          | ((with_reducible refine gate_dst (N := 5) rfl ?_); go_loud (refine box_event ?hg (N := 5) ?hd (cs := (headC no bl sl).toArray) (t := 28) ?hr ?_; (case hd => rfl); (case hg => rfl); (case hr => kernel_rfl); intro g5 hg w_ hx hb; have NE_HG_HX := Aside0.mk (new_ne HG.out hg); have GE_HX := Aside0.mk (show w.heap.size ≤ g5 by have := HB.out.size; omega); clear hg; clear cHG_0 cHG_1 cHG_2; replace HB := Aside0.mk (below_step HB.out hb); replace HG := Aside0.mk (blk_below HG.out hb); clear hb; have HX : Aside0 (HeadAt w_ g5 no bl sl) := ⟨hx⟩; clear hx; have cHG_0 := c3_0 HG.out; have cHG_1 := c3_1 HG.out; have cHG_2 := c3_2 HG.out; have cHX_n := cell_no HX.out))
          | ((with_reducible refine gate_dst (N := 8) rfl ?_); go_loud (refine box_event ?hg (N := 8) ?hd (cs := (headC 0 (zeros 16) (zeros 8)).toArray) (t := 28) ?hr ?_; (case hd => rfl); (case hg => rfl); (case hr => kernel_rfl); intro g8 hg w_ hx hb; have NE_HG_HY := Aside0.mk (new_ne HG.out hg); have NE_HX_HY := Aside0.mk (new_ne HX.out hg); have GE_HY := Aside0.mk (show w.heap.size ≤ g8 by have := HB.out.size; omega); clear hg; clear cHG_0 cHG_1 cHG_2 cHX_n; replace HB := Aside0.mk (below_step HB.out hb); replace HG := Aside0.mk (blk_below HG.out hb); replace HX := Aside0.mk (HeadAt.below HX.out hb); clear hb; have HY : Aside0 (HeadAt w_ g8 0 (zeros 16) (zeros 8)) := ⟨hx⟩; clear hx; have cHG_0 := c3_0 HG.out; have cHG_1 := c3_1 HG.out; have cHG_2 := c3_2 HG.out; have cHX_n := cell_no HX.out; have cHY_n := cell_no HY.out)))
      clear cHG_0 cHG_1 cHG_2 cHX_n cHY_n
      replace HB := Aside0.mk (below_drew HB.out)
      replace HG := Aside0.mk (blk_drew HG.out)
      replace HX := Aside0.mk (HeadAt.drew HX.out)
      replace HY := Aside0.mk (HeadAt.drew HY.out)
      refine q_start (n := 10) (S := fun (_ : Unit) w_ => Below w.heap.size w w_ ∧ w_.heap[g4]? = some (.cells #[.int .i64 G, .int .i64 I, .int .i64 N] 23 (0, 0)) ∧ HeadAt w_ g5 no bl sl ∧ HeadAt w_ g8 0 (zeros 16) (zeros 8)) (ds := []) () #[false, false, false, false, false, false, false, false, false, false] (by kernel_rfl) rfl rfl ⟨HB.out, HG.out, HX.out, HY.out⟩ ?_
      clear HB HG HX HY
      refine q_tab group_UseB.tab1 group_UseB.bits1 (fun HT_ HW_ => ?_)
      refine q_take (i := 0) (N := some 11) (v := ?_) (a' := ?_) #[true, false, false, false, false, false, false, false, false, false] rfl rfl (take_ofW HT_.out HW_.out (by kernel_rfl)) (by decide) (quiet_val (by rfl) ?_) ?_ ?_
      rotate_left
      · rintro _ w_ ⟨hHB, hHG, hHX, hHY⟩
        have HB := Aside0.mk hHB
        have HG := Aside0.mk hHG
        have HX := Aside0.mk hHX
        have HY := Aside0.mk hHY
        clear hHB hHG hHX hHY
        have cHG_0 := c3_0 HG.out
        have cHG_1 := c3_1 HG.out
        have cHG_2 := c3_2 HG.out
        have cHX_n := cell_no HX.out
        have cHY_n := cell_no HY.out
        go_simp
        with_reducible rfl
      rotate_left
      · simp only [Act.put, List.setIfInBounds_toArray, List.set_cons_zero, List.set_cons_succ, i64_w, i32_w, List.getElem_toArray, List.getElem_cons_succ, List.getElem_cons_zero]
        rfl
      refine q_take (i := 1) (N := some 12) (v := headV no bl sl) (a' := ?_) #[true, true, false, false, false, false, false, false, false, false] rfl rfl (take_ofW HT_.out HW_.out (by kernel_rfl)) (by decide) (quiet_val (by rfl) ?_) ?_ ?_
      · rintro _ w_ ⟨hHB, hHG, hHX, hHY⟩
        have HB := Aside0.mk hHB
        have HG := Aside0.mk hHG
        have HX := Aside0.mk hHX
        have HY := Aside0.mk hHY
        clear hHB hHG hHX hHY
        have cHG_0 := c3_0 HG.out
        have cHG_1 := c3_1 HG.out
        have cHG_2 := c3_2 HG.out
        have cHX_n := cell_no HX.out
        have cHY_n := cell_no HY.out
        exact run_loadH (.tmp 5) rfl rfl HX.out HM.out
      rotate_left
      · simp only [Act.put, List.setIfInBounds_toArray, List.set_cons_zero, List.set_cons_succ, i64_w, i32_w, List.getElem_toArray, List.getElem_cons_succ, List.getElem_cons_zero]
        rfl
      refine q_take (i := 2) (N := some 13) (v := ?_) (a' := ?_) #[true, true, true, false, false, false, false, false, false, false] rfl rfl (take_ofW HT_.out HW_.out (by kernel_rfl)) (by decide) (quiet_val (by rfl) ?_) ?_ ?_
      rotate_left
      · intro _ w_ _
        go_simp
        with_reducible rfl
      rotate_left
      · simp only [Act.put, List.setIfInBounds_toArray, List.set_cons_zero, List.set_cons_succ, i64_w, i32_w, List.getElem_toArray, List.getElem_cons_succ, List.getElem_cons_zero]
        rfl
      refine q_take (i := 3) (N := some 14) (v := ?_) (a' := ?_) #[true, true, true, true, false, false, false, false, false, false] rfl rfl (take_ofW HT_.out HW_.out (by kernel_rfl)) (by decide) (quiet_val (by rfl) ?_) ?_ ?_
      rotate_left
      · rintro _ w_ ⟨hHB, hHG, hHX, hHY⟩
        have HB := Aside0.mk hHB
        have HG := Aside0.mk hHG
        have HX := Aside0.mk hHX
        have HY := Aside0.mk hHY
        clear hHB hHG hHX hHY
        have cHG_0 := c3_0 HG.out
        have cHG_1 := c3_1 HG.out
        have cHG_2 := c3_2 HG.out
        have cHX_n := cell_no HX.out
        have cHY_n := cell_no HY.out
        go_simp
        with_reducible rfl
      rotate_left
      · simp only [Act.put, List.setIfInBounds_toArray, List.set_cons_zero, List.set_cons_succ, i64_w, i32_w, List.getElem_toArray, List.getElem_cons_succ, List.getElem_cons_zero]
        rfl
      refine q_take (i := 4) (N := some 15) (v := .int .i64 tb) (a' := ?_) #[true, true, true, true, true, false, false, false, false, false] rfl rfl (take_ofW HT_.out HW_.out (by kernel_rfl)) (by decide) (quiet_call Try.func44 (by kernel_rfl) rfl #[.agg #[.int .i64 G, .int .i64 I, .int .i64 N]] (by rfl) rfl (by (try simp only [List.map_toArray, List.map_cons, List.map_nil]); first | done | rfl) ?_) ?_ ?_
      · rintro _ w_ ⟨hHB, hHG, hHX, hHY⟩
        have HB := Aside0.mk hHB
        have HG := Aside0.mk hHG
        have HX := Aside0.mk hHX
        have HY := Aside0.mk hHY
        with_reducible refine (geo_Tables.calls 2 G I N tb _ HT.out).mono ?_
        rintro e w_2 ⟨rfl, hb⟩
        exact ⟨rfl, ⟨below_step HB.out hb, blk_below HG.out hb, HeadAt.below HX.out hb, HeadAt.below HY.out hb⟩⟩
      rotate_left
      · simp only [Act.put, List.setIfInBounds_toArray, List.set_cons_zero, List.set_cons_succ, i64_w, i32_w, List.getElem_toArray, List.getElem_cons_succ, List.getElem_cons_zero]
        rfl
      refine q_take (i := 5) (N := some 16) (v := ?_) (a' := ?_) #[true, true, true, true, true, true, false, false, false, false] rfl rfl (take_ofW HT_.out HW_.out (by kernel_rfl)) (by decide) (quiet_val (by rfl) ?_) ?_ ?_
      rotate_left
      · intro _ w_ _
        go_simp
        with_reducible rfl
      rotate_left
      · simp only [Act.put, List.setIfInBounds_toArray, List.set_cons_zero, List.set_cons_succ, i64_w, i32_w, List.getElem_toArray, List.getElem_cons_succ, List.getElem_cons_zero]
        rfl
      refine q_take (i := 6) (N := some 17) (v := ?_) (a' := ?_) #[true, true, true, true, true, true, true, false, false, false] rfl rfl (take_ofW HT_.out HW_.out (by kernel_rfl)) (by decide) (quiet_val (by rfl) ?_) ?_ ?_
      rotate_left
      · intro _ w_ _
        go_simp
        with_reducible rfl
      rotate_left
      · simp only [Act.put, List.setIfInBounds_toArray, List.set_cons_zero, List.set_cons_succ, i64_w, i32_w, List.getElem_toArray, List.getElem_cons_succ, List.getElem_cons_zero]
        rfl
      refine q_take (i := 7) (N := some 18) (v := ?_) (a' := ?_) #[true, true, true, true, true, true, true, true, false, false] rfl rfl (take_ofW HT_.out HW_.out (by kernel_rfl)) (by decide) (quiet_val (by rfl) ?_) ?_ ?_
      rotate_left
      · rintro _ w_ ⟨hHB, hHG, hHX, hHY⟩
        have HB := Aside0.mk hHB
        have HG := Aside0.mk hHG
        have HX := Aside0.mk hHX
        have HY := Aside0.mk hHY
        clear hHB hHG hHX hHY
        have cHG_0 := c3_0 HG.out
        have cHG_1 := c3_1 HG.out
        have cHG_2 := c3_2 HG.out
        have cHX_n := cell_no HX.out
        have cHY_n := cell_no HY.out
        go_simp
        with_reducible rfl
      rotate_left
      · simp only [Act.put, List.setIfInBounds_toArray, List.set_cons_zero, List.set_cons_succ, i64_w, i32_w, List.getElem_toArray, List.getElem_cons_succ, List.getElem_cons_zero]
        rfl
      refine q_take (i := 8) (N := some 19) (v := .int .i64 0) (a' := ?_) #[true, true, true, true, true, true, true, true, true, false] rfl rfl (take_ofW HT_.out HW_.out (by kernel_rfl)) (by decide) (quiet_call Try.func43 (by kernel_rfl) rfl #[.agg #[.int .i64 G, .int .i64 I, .int .i64 N], headV no bl sl, .int .i64 (n : Int), .int .i64 (wrap64 (1 + tb)), .int .i64 G] (by rfl) rfl (by (try simp only [List.map_toArray, List.map_cons, List.map_nil]); first | done | rfl) ?_) ?_ ?_
      · rintro _ w_ ⟨hHB, hHG, hHX, hHY⟩
        have HB := Aside0.mk hHB
        have HG := Aside0.mk hHG
        have HX := Aside0.mk hHX
        have HY := Aside0.mk hHY
        with_reducible refine (MA.out _).mono ?_
        rintro e w_2 ⟨rfl, hb⟩
        exact ⟨rfl, ⟨below_step HB.out hb, blk_below HG.out hb, HeadAt.below HX.out hb, HeadAt.below HY.out hb⟩⟩
      rotate_left
      · simp only [Act.put, List.setIfInBounds_toArray, List.set_cons_zero, List.set_cons_succ, i64_w, i32_w, List.getElem_toArray, List.getElem_cons_succ, List.getElem_cons_zero]
        rfl
      refine q_take (i := 9) (N := some 10) (v := ?_) (a' := ?_) #[true, true, true, true, true, true, true, true, true, true] rfl rfl (take_ofW HT_.out HW_.out (by kernel_rfl)) (by decide) (quiet_val (by rfl) ?_) ?_ ?_
      rotate_left
      · intro _ w_ _
        go_simp
        with_reducible rfl
      rotate_left
      · simp only [Act.put, List.setIfInBounds_toArray, List.set_cons_zero, List.set_cons_succ, i64_w, i32_w, List.getElem_toArray, List.getElem_cons_succ, List.getElem_cons_zero]
        rfl
      refine q_done (done_of HT_.out (by kernel_rfl)) ?_
      rintro w_ ⟨hHB, hHG, hHX, hHY⟩
      have HB := Aside0.mk hHB
      have HG := Aside0.mk hHG
      have HX := Aside0.mk hHX
      have HY := Aside0.mk hHY
      clear hHB hHG hHX hHY
      have cHG_0 := c3_0 HG.out
      have cHG_1 := c3_1 HG.out
      have cHG_2 := c3_2 HG.out
      have cHX_n := cell_no HX.out
      have cHY_n := cell_no HY.out
      go_wp2_with (first
          | (go_at_call 45; go_loud (with_reducible refine (use_bl_ne no bl sl g5 n on _ HH.out HX.out HN.out HBIT.out).mono ?_; rintro e w_ ⟨rfl, hx, hg⟩; clear cHG_0 cHG_1 cHG_2 cHX_n cHY_n; replace HG := Aside0.mk (grown_blk HG.out hg NE_HG_HX.out); replace HY := Aside0.mk (HeadAt.grown HY.out hg (Ne.symm NE_HX_HY.out)); replace HB := Aside0.mk (grown_below HB.out hg GE_HX.out); clear HX; have HX := Aside0.mk hx; clear hx hg; have HY : Aside0 (HeadAt w_ g8 0 (zeros 16) (zeros 8)) := ⟨HY.out⟩; have cHG_0 := c3_0 HG.out; have cHG_1 := c3_1 HG.out; have cHG_2 := c3_2 HG.out; have cHX_n := cell_no HX.out; have cHY_n := cell_no HY.out))
          | ((with_reducible refine gate_dst (N := 31) rfl ?_); go_loud (refine wl_head ?hw (.tmp 5) ?ho ?hx HX.out HM2.out ?_; (case hw => first | rfl | (go_simp; done)); (case ho => rfl); (case hx => rfl)))
          | ((refine gate_store (t := 28) (p := 8) rfl ?_); go_loud (refine store_all (P := Try.prog) (t := 28) (p := 8) (v := .tmp 31) ?hgd ?hN ?ho g8 (headC no (Bits.setS bl n on) sl) ?hx ?hy _ _ HY.out (hi_head HM2.out) (hold_head HZ.out HM2.out) (head_one _ _ _) w.heap.size w HB.out GE_HY.out ?_; (case hgd => rfl); (case hN => rfl); (case ho => rfl); (case hx => rfl); (case hy => rfl); intro w_ hx_ ho_ hb_; clear cHG_0 cHG_1 cHG_2 cHX_n cHY_n; replace HG := Aside0.mk ((ho_ _ NE_HG_HY.out).trans HG.out); replace HX := Aside0.mk (HeadAt.other HX.out ho_ NE_HX_HY.out); clear HB; have HB := Aside0.mk hb_; clear hb_; clear HY; have HY : Aside0 (HeadAt w_ g8 no (Bits.setS bl n on) sl) := ⟨hx_⟩; clear hx_ ho_; have cHG_0 := c3_0 HG.out; have cHG_1 := c3_1 HG.out; have cHG_2 := c3_2 HG.out; have cHX_n := cell_no HX.out; have cHY_n := cell_no HY.out)))
      refine bodyPost_ret (ret_head_t rfl _ _ g8 rfl HY.out HM2.out) rfl ?_
      exact ⟨rfl, HB.out⟩
  · rw [if_neg h0]
    have hm1 : (m == 0) = false := beq_eq_false_iff_ne.mpr h0
    have hm2 : (m != 0) = true := bne_iff_ne.mpr h0
    clear hm hi hmay h0
    have HB := Aside0.mk (Below.refl w.heap.size w)
    go_enter Try.func20, Try.ntmps20
    go_wp2_with (first
        | ((with_reducible refine gate_dst (N := 4) rfl ?_); go_loud (refine box_event ?hg (N := 4) ?hd (cs := ([.int .i64 G, .int .i64 I, .int .i64 N]).toArray) (t := 23) ?hr ?_; (case hd => rfl); (case hg => rfl); (case hr => first | kernel_rfl | (go_simp; done) | (go_simp; rfl)); intro g4 hg w_ hx hb; have GE_HG := Aside0.mk (show w.heap.size ≤ g4 by have := HB.out.size; omega); clear hg; replace HB := Aside0.mk (below_step HB.out hb); clear hb; have HG : Aside0 (w_.heap[g4]? = some (.cells #[.int .i64 G, .int .i64 I, .int .i64 N] 23 (0, 0))) := ⟨hx⟩; clear hx; have cHG_0 := c3_0 HG.out; have cHG_1 := c3_1 HG.out; have cHG_2 := c3_2 HG.out))
        | ((with_reducible refine gate_dst (N := 5) rfl ?_); go_loud (refine box_event ?hg (N := 5) ?hd (cs := (headC no bl sl).toArray) (t := 28) ?hr ?_; (case hd => rfl); (case hg => rfl); (case hr => kernel_rfl); intro g5 hg w_ hx hb; have NE_HG_HX := Aside0.mk (new_ne HG.out hg); have GE_HX := Aside0.mk (show w.heap.size ≤ g5 by have := HB.out.size; omega); clear hg; clear cHG_0 cHG_1 cHG_2; replace HB := Aside0.mk (below_step HB.out hb); replace HG := Aside0.mk (blk_below HG.out hb); clear hb; have HX : Aside0 (HeadAt w_ g5 no bl sl) := ⟨hx⟩; clear hx; have cHG_0 := c3_0 HG.out; have cHG_1 := c3_1 HG.out; have cHG_2 := c3_2 HG.out; have cHX_n := cell_no HX.out))
        | ((with_reducible refine gate_dst (N := 8) rfl ?_); go_loud (refine box_event ?hg (N := 8) ?hd (cs := (headC 0 (zeros 16) (zeros 8)).toArray) (t := 28) ?hr ?_; (case hd => rfl); (case hg => rfl); (case hr => kernel_rfl); intro g8 hg w_ hx hb; have NE_HG_HY := Aside0.mk (new_ne HG.out hg); have NE_HX_HY := Aside0.mk (new_ne HX.out hg); have GE_HY := Aside0.mk (show w.heap.size ≤ g8 by have := HB.out.size; omega); clear hg; clear cHG_0 cHG_1 cHG_2 cHX_n; replace HB := Aside0.mk (below_step HB.out hb); replace HG := Aside0.mk (blk_below HG.out hb); replace HX := Aside0.mk (HeadAt.below HX.out hb); clear hb; have HY : Aside0 (HeadAt w_ g8 0 (zeros 16) (zeros 8)) := ⟨hx⟩; clear hx; have cHG_0 := c3_0 HG.out; have cHG_1 := c3_1 HG.out; have cHG_2 := c3_2 HG.out; have cHX_n := cell_no HX.out; have cHY_n := cell_no HY.out)))
    clear cHG_0 cHG_1 cHG_2 cHX_n cHY_n
    replace HB := Aside0.mk (below_drew HB.out)
    replace HG := Aside0.mk (blk_drew HG.out)
    replace HX := Aside0.mk (HeadAt.drew HX.out)
    replace HY := Aside0.mk (HeadAt.drew HY.out)
    refine q_start (n := 10) (S := fun (_ : Unit) w_ => Below w.heap.size w w_ ∧ w_.heap[g4]? = some (.cells #[.int .i64 G, .int .i64 I, .int .i64 N] 23 (0, 0)) ∧ HeadAt w_ g5 no bl sl ∧ HeadAt w_ g8 0 (zeros 16) (zeros 8)) (ds := []) () #[false, false, false, false, false, false, false, false, false, false] (by kernel_rfl) rfl rfl ⟨HB.out, HG.out, HX.out, HY.out⟩ ?_
    clear HB HG HX HY
    refine q_tab group_UseB.tab1 group_UseB.bits1 (fun HT_ HW_ => ?_)
    refine q_take (i := 0) (N := some 11) (v := ?_) (a' := ?_) #[true, false, false, false, false, false, false, false, false, false] rfl rfl (take_ofW HT_.out HW_.out (by kernel_rfl)) (by decide) (quiet_val (by rfl) ?_) ?_ ?_
    rotate_left
    · rintro _ w_ ⟨hHB, hHG, hHX, hHY⟩
      have HB := Aside0.mk hHB
      have HG := Aside0.mk hHG
      have HX := Aside0.mk hHX
      have HY := Aside0.mk hHY
      clear hHB hHG hHX hHY
      have cHG_0 := c3_0 HG.out
      have cHG_1 := c3_1 HG.out
      have cHG_2 := c3_2 HG.out
      have cHX_n := cell_no HX.out
      have cHY_n := cell_no HY.out
      go_simp
      with_reducible rfl
    rotate_left
    · simp only [Act.put, List.setIfInBounds_toArray, List.set_cons_zero, List.set_cons_succ, i64_w, i32_w, List.getElem_toArray, List.getElem_cons_succ, List.getElem_cons_zero]
      rfl
    refine q_take (i := 1) (N := some 12) (v := headV no bl sl) (a' := ?_) #[true, true, false, false, false, false, false, false, false, false] rfl rfl (take_ofW HT_.out HW_.out (by kernel_rfl)) (by decide) (quiet_val (by rfl) ?_) ?_ ?_
    · rintro _ w_ ⟨hHB, hHG, hHX, hHY⟩
      have HB := Aside0.mk hHB
      have HG := Aside0.mk hHG
      have HX := Aside0.mk hHX
      have HY := Aside0.mk hHY
      clear hHB hHG hHX hHY
      have cHG_0 := c3_0 HG.out
      have cHG_1 := c3_1 HG.out
      have cHG_2 := c3_2 HG.out
      have cHX_n := cell_no HX.out
      have cHY_n := cell_no HY.out
      exact run_loadH (.tmp 5) rfl rfl HX.out HM.out
    rotate_left
    · simp only [Act.put, List.setIfInBounds_toArray, List.set_cons_zero, List.set_cons_succ, i64_w, i32_w, List.getElem_toArray, List.getElem_cons_succ, List.getElem_cons_zero]
      rfl
    refine q_take (i := 2) (N := some 13) (v := ?_) (a' := ?_) #[true, true, true, false, false, false, false, false, false, false] rfl rfl (take_ofW HT_.out HW_.out (by kernel_rfl)) (by decide) (quiet_val (by rfl) ?_) ?_ ?_
    rotate_left
    · intro _ w_ _
      go_simp
      with_reducible rfl
    rotate_left
    · simp only [Act.put, List.setIfInBounds_toArray, List.set_cons_zero, List.set_cons_succ, i64_w, i32_w, List.getElem_toArray, List.getElem_cons_succ, List.getElem_cons_zero]
      rfl
    refine q_take (i := 3) (N := some 14) (v := ?_) (a' := ?_) #[true, true, true, true, false, false, false, false, false, false] rfl rfl (take_ofW HT_.out HW_.out (by kernel_rfl)) (by decide) (quiet_val (by rfl) ?_) ?_ ?_
    rotate_left
    · rintro _ w_ ⟨hHB, hHG, hHX, hHY⟩
      have HB := Aside0.mk hHB
      have HG := Aside0.mk hHG
      have HX := Aside0.mk hHX
      have HY := Aside0.mk hHY
      clear hHB hHG hHX hHY
      have cHG_0 := c3_0 HG.out
      have cHG_1 := c3_1 HG.out
      have cHG_2 := c3_2 HG.out
      have cHX_n := cell_no HX.out
      have cHY_n := cell_no HY.out
      go_simp
      with_reducible rfl
    rotate_left
    · simp only [Act.put, List.setIfInBounds_toArray, List.set_cons_zero, List.set_cons_succ, i64_w, i32_w, List.getElem_toArray, List.getElem_cons_succ, List.getElem_cons_zero]
      rfl
    refine q_take (i := 4) (N := some 15) (v := .int .i64 tb) (a' := ?_) #[true, true, true, true, true, false, false, false, false, false] rfl rfl (take_ofW HT_.out HW_.out (by kernel_rfl)) (by decide) (quiet_call Try.func44 (by kernel_rfl) rfl #[.agg #[.int .i64 G, .int .i64 I, .int .i64 N]] (by rfl) rfl (by (try simp only [List.map_toArray, List.map_cons, List.map_nil]); first | done | rfl) ?_) ?_ ?_
    · rintro _ w_ ⟨hHB, hHG, hHX, hHY⟩
      have HB := Aside0.mk hHB
      have HG := Aside0.mk hHG
      have HX := Aside0.mk hHX
      have HY := Aside0.mk hHY
      with_reducible refine (geo_Tables.calls 2 G I N tb _ HT.out).mono ?_
      rintro e w_2 ⟨rfl, hb⟩
      exact ⟨rfl, ⟨below_step HB.out hb, blk_below HG.out hb, HeadAt.below HX.out hb, HeadAt.below HY.out hb⟩⟩
    rotate_left
    · simp only [Act.put, List.setIfInBounds_toArray, List.set_cons_zero, List.set_cons_succ, i64_w, i32_w, List.getElem_toArray, List.getElem_cons_succ, List.getElem_cons_zero]
      rfl
    refine q_take (i := 5) (N := some 16) (v := ?_) (a' := ?_) #[true, true, true, true, true, true, false, false, false, false] rfl rfl (take_ofW HT_.out HW_.out (by kernel_rfl)) (by decide) (quiet_val (by rfl) ?_) ?_ ?_
    rotate_left
    · intro _ w_ _
      go_simp
      with_reducible rfl
    rotate_left
    · simp only [Act.put, List.setIfInBounds_toArray, List.set_cons_zero, List.set_cons_succ, i64_w, i32_w, List.getElem_toArray, List.getElem_cons_succ, List.getElem_cons_zero]
      rfl
    refine q_take (i := 6) (N := some 17) (v := ?_) (a' := ?_) #[true, true, true, true, true, true, true, false, false, false] rfl rfl (take_ofW HT_.out HW_.out (by kernel_rfl)) (by decide) (quiet_val (by rfl) ?_) ?_ ?_
    rotate_left
    · intro _ w_ _
      go_simp
      with_reducible rfl
    rotate_left
    · simp only [Act.put, List.setIfInBounds_toArray, List.set_cons_zero, List.set_cons_succ, i64_w, i32_w, List.getElem_toArray, List.getElem_cons_succ, List.getElem_cons_zero]
      rfl
    refine q_take (i := 7) (N := some 18) (v := ?_) (a' := ?_) #[true, true, true, true, true, true, true, true, false, false] rfl rfl (take_ofW HT_.out HW_.out (by kernel_rfl)) (by decide) (quiet_val (by rfl) ?_) ?_ ?_
    rotate_left
    · rintro _ w_ ⟨hHB, hHG, hHX, hHY⟩
      have HB := Aside0.mk hHB
      have HG := Aside0.mk hHG
      have HX := Aside0.mk hHX
      have HY := Aside0.mk hHY
      clear hHB hHG hHX hHY
      have cHG_0 := c3_0 HG.out
      have cHG_1 := c3_1 HG.out
      have cHG_2 := c3_2 HG.out
      have cHX_n := cell_no HX.out
      have cHY_n := cell_no HY.out
      go_simp
      with_reducible rfl
    rotate_left
    · simp only [Act.put, List.setIfInBounds_toArray, List.set_cons_zero, List.set_cons_succ, i64_w, i32_w, List.getElem_toArray, List.getElem_cons_succ, List.getElem_cons_zero]
      rfl
    refine q_take (i := 8) (N := some 19) (v := .int .i64 m) (a' := ?_) #[true, true, true, true, true, true, true, true, true, false] rfl rfl (take_ofW HT_.out HW_.out (by kernel_rfl)) (by decide) (quiet_call Try.func43 (by kernel_rfl) rfl #[.agg #[.int .i64 G, .int .i64 I, .int .i64 N], headV no bl sl, .int .i64 i, .int .i64 (wrap64 (1 + tb)), .int .i64 G] (by rfl) rfl (by (try simp only [List.map_toArray, List.map_cons, List.map_nil]); first | done | rfl) ?_) ?_ ?_
    · rintro _ w_ ⟨hHB, hHG, hHX, hHY⟩
      have HB := Aside0.mk hHB
      have HG := Aside0.mk hHG
      have HX := Aside0.mk hHX
      have HY := Aside0.mk hHY
      with_reducible refine (MA.out _).mono ?_
      rintro e w_2 ⟨rfl, hb⟩
      exact ⟨rfl, ⟨below_step HB.out hb, blk_below HG.out hb, HeadAt.below HX.out hb, HeadAt.below HY.out hb⟩⟩
    rotate_left
    · simp only [Act.put, List.setIfInBounds_toArray, List.set_cons_zero, List.set_cons_succ, i64_w, i32_w, List.getElem_toArray, List.getElem_cons_succ, List.getElem_cons_zero]
      rfl
    refine q_take (i := 9) (N := some 10) (v := ?_) (a' := ?_) #[true, true, true, true, true, true, true, true, true, true] rfl rfl (take_ofW HT_.out HW_.out (by kernel_rfl)) (by decide) (quiet_val (by rfl) ?_) ?_ ?_
    rotate_left
    · intro _ w_ _
      go_simp
      with_reducible rfl
    rotate_left
    · simp only [Act.put, List.setIfInBounds_toArray, List.set_cons_zero, List.set_cons_succ, i64_w, i32_w, List.getElem_toArray, List.getElem_cons_succ, List.getElem_cons_zero]
      rfl
    refine q_done (done_of HT_.out (by kernel_rfl)) ?_
    rintro w_ ⟨hHB, hHG, hHX, hHY⟩
    have HB := Aside0.mk hHB
    have HG := Aside0.mk hHG
    have HX := Aside0.mk hHX
    have HY := Aside0.mk hHY
    clear hHB hHG hHX hHY
    have cHG_0 := c3_0 HG.out
    have cHG_1 := c3_1 HG.out
    have cHG_2 := c3_2 HG.out
    have cHX_n := cell_no HX.out
    have cHY_n := cell_no HY.out
    go_wp2_with (first
        | ((refine gate_store (t := 28) (p := 8) rfl ?_); go_loud (refine store_all (P := Try.prog) (t := 28) (p := 8) (v := .tmp 29) ?hgd ?hN ?ho g8 (headC 0 (zeros 16) (zeros 8)) ?hx ?hy _ _ HY.out (hi_head HZ.out) (hold_head HZ.out HZ.out) (head_one _ _ _) w.heap.size w HB.out GE_HY.out ?_; (case hgd => rfl); (case hN => rfl); (case ho => rfl); (case hx => rfl); (case hy => rfl); intro w_ hx_ ho_ hb_; clear cHG_0 cHG_1 cHG_2 cHX_n cHY_n; replace HG := Aside0.mk ((ho_ _ NE_HG_HY.out).trans HG.out); replace HX := Aside0.mk (HeadAt.other HX.out ho_ NE_HX_HY.out); clear HB; have HB := Aside0.mk hb_; clear hb_; clear HY; have HY : Aside0 (HeadAt w_ g8 0 (zeros 16) (zeros 8)) := ⟨hx_⟩; clear hx_ ho_; have cHG_0 := c3_0 HG.out; have cHG_1 := c3_1 HG.out; have cHG_2 := c3_2 HG.out; have cHX_n := cell_no HX.out; have cHY_n := cell_no HY.out)))
    refine bodyPost_ret (ret_head_t rfl _ _ g8 rfl HY.out HZ.out) rfl ?_
    exact ⟨rfl, HB.out⟩
set_option maxHeartbeats 16000000 in
set_option maxRecDepth 100000 in
theorem useS_any (G I N no : Int) (bl sl : List Int) (i : Int) (on : Bool) (w : World) (hm : HM bl sl) :
    Calls Try.prog 22 #[.agg #[.int .i64 G, .int .i64 I, .int .i64 N], headV no bl sl, .int .i64 i, .bool on] w fun e w' => e = .returned (.tuple #[headV (useSP G I N no bl sl i on).1 (useSP G I N no bl sl i on).2.1 (useSP G I N no bl sl i on).2.2.1, .int .i64 (useSP G I N no bl sl i on).2.2.2]) ∧ Below w.heap.size w w' := by
  have HH := Aside0.mk hm
  have HM := Aside0.mk hm.maps
  have HZ := Aside0.mk zeros_maps
  obtain ⟨lo, hlo⟩ : ∃ t, t = (if no = 0 then (2 : Int) else 0) := ⟨_, rfl⟩
  obtain ⟨m, hmay⟩ : ∃ m, m = mayP (rightP G I N no bl sl) i lo I := ⟨_, rfl⟩
  have MA := Aside0.mk (fun (w : World) => may_any G I N no bl sl i lo I w hm)
  have hi : m = 0 → ∃ n : Nat, (n : Int) = i ∧ n < 64 := by
    intro h0
    rw [hmay] at h0
    obtain ⟨hr, h1, h2⟩ := mayP_zero h0
    have hq := Geo.R_iff.mp (rightP_R hr)
    have h3 : 0 ≤ lo := by rw [hlo]; split <;> decide
    exact ⟨i.toNat, by omega, by omega⟩
  unfold useSP
  rw [← hlo, ← hmay]
  rw [← hmay] at MA
  by_cases h0 : m = 0
  · obtain ⟨n, rfl, hn⟩ := hi h0
    subst h0
    rw [if_pos rfl]
    have HN := Aside0.mk hn
    have HZM := Aside0.mk hmay.symm
    have HM2 := Aside0.mk (set_maps_s hm.maps n on)
    rw [Bits.bitZ_nat, Int.toNat_natCast]
    clear hm hi hmay hn
    by_cases hbit : Bits.bitS sl n = on
    · rw [if_pos hbit]
      have HBIT := Aside0.mk hbit
      clear hbit
      by_cases hno : no = 0
      · obtain rfl : lo = 2 := by rw [hlo, if_pos hno]
        have hno' : (no == 0) = true := beq_iff_eq.mpr hno
        clear hlo hno
        have HB := Aside0.mk (Below.refl w.heap.size w)
        go_enter Try.func22, Try.ntmps22
        go_wp2_with (first
            | ((with_reducible refine gate_dst (N := 4) rfl ?_); go_loud (refine box_event ?hg (N := 4) ?hd (cs := ([.int .i64 G, .int .i64 I, .int .i64 N]).toArray) (t := 23) ?hr ?_; (case hd => rfl); (case hg => rfl); (case hr => first | kernel_rfl | (go_simp; done) | (go_simp; rfl)); intro g4 hg w_ hx hb; have GE_HG := Aside0.mk (show w.heap.size ≤ g4 by have := HB.out.size; omega); clear hg; replace HB := Aside0.mk (below_step HB.out hb); clear hb; have HG : Aside0 (w_.heap[g4]? = some (.cells #[.int .i64 G, .int .i64 I, .int .i64 N] 23 (0, 0))) := ⟨hx⟩; clear hx; have cHG_0 := c3_0 HG.out; have cHG_1 := c3_1 HG.out; have cHG_2 := c3_2 HG.out))
            | ((with_reducible refine gate_dst (N := 5) rfl ?_); go_loud (refine box_event ?hg (N := 5) ?hd (cs := (headC no bl sl).toArray) (t := 28) ?hr ?_; (case hd => rfl); (case hg => rfl); (case hr => kernel_rfl); intro g5 hg w_ hx hb; have NE_HG_HX := Aside0.mk (new_ne HG.out hg); have GE_HX := Aside0.mk (show w.heap.size ≤ g5 by have := HB.out.size; omega); clear hg; clear cHG_0 cHG_1 cHG_2; replace HB := Aside0.mk (below_step HB.out hb); replace HG := Aside0.mk (blk_below HG.out hb); clear hb; have HX : Aside0 (HeadAt w_ g5 no bl sl) := ⟨hx⟩; clear hx; have cHG_0 := c3_0 HG.out; have cHG_1 := c3_1 HG.out; have cHG_2 := c3_2 HG.out; have cHX_n := cell_no HX.out))
            | ((with_reducible refine gate_dst (N := 8) rfl ?_); go_loud (refine box_event ?hg (N := 8) ?hd (cs := (headC 0 (zeros 16) (zeros 8)).toArray) (t := 28) ?hr ?_; (case hd => rfl); (case hg => rfl); (case hr => kernel_rfl); intro g8 hg w_ hx hb; have NE_HG_HY := Aside0.mk (new_ne HG.out hg); have NE_HX_HY := Aside0.mk (new_ne HX.out hg); have GE_HY := Aside0.mk (show w.heap.size ≤ g8 by have := HB.out.size; omega); clear hg; clear cHG_0 cHG_1 cHG_2 cHX_n; replace HB := Aside0.mk (below_step HB.out hb); replace HG := Aside0.mk (blk_below HG.out hb); replace HX := Aside0.mk (HeadAt.below HX.out hb); clear hb; have HY : Aside0 (HeadAt w_ g8 0 (zeros 16) (zeros 8)) := ⟨hx⟩; clear hx; have cHG_0 := c3_0 HG.out; have cHG_1 := c3_1 HG.out; have cHG_2 := c3_2 HG.out; have cHX_n := cell_no HX.out; have cHY_n := cell_no HY.out))
            | ((with_reducible refine gate_dst (N := 16) rfl ?_); go_loud (refine wl_head ?hw (.tmp 5) ?ho ?hx HX.out HM.out ?_; (case hw => first | rfl | (go_simp; done)); (case ho => rfl); (case hx => rfl)))
            | (go_at_call 43; go_loud (with_reducible refine (MA.out _).mono ?_; rintro e w_ ⟨rfl, hb⟩; clear cHG_0 cHG_1 cHG_2 cHX_n cHY_n; replace HB := Aside0.mk (below_step HB.out hb); replace HG := Aside0.mk (blk_below HG.out hb); replace HX := Aside0.mk (HeadAt.below HX.out hb); replace HY := Aside0.mk (HeadAt.below HY.out hb); clear hb; have cHG_0 := c3_0 HG.out; have cHG_1 := c3_1 HG.out; have cHG_2 := c3_2 HG.out; have cHX_n := cell_no HX.out; have cHY_n := cell_no HY.out))
            | (go_at_call 45; go_loud (with_reducible refine (use_sl_eq no bl sl g5 n on _ HH.out HX.out HN.out HBIT.out).mono ?_; rintro e w_ ⟨rfl, hb⟩; clear cHG_0 cHG_1 cHG_2 cHX_n cHY_n; replace HB := Aside0.mk (below_step HB.out hb); replace HG := Aside0.mk (blk_below HG.out hb); replace HX := Aside0.mk (HeadAt.below HX.out hb); replace HY := Aside0.mk (HeadAt.below HY.out hb); clear hb; have cHG_0 := c3_0 HG.out; have cHG_1 := c3_1 HG.out; have cHG_2 := c3_2 HG.out; have cHX_n := cell_no HX.out; have cHY_n := cell_no HY.out))
            | ((refine gate_store (t := 28) (p := 8) rfl ?_); go_loud (refine store_all (P := Try.prog) (t := 28) (p := 8) (v := .tmp 31) ?hgd ?hN ?ho g8 (headC 0 (zeros 16) (zeros 8)) ?hx ?hy _ _ HY.out (hi_head HZ.out) (hold_head HZ.out HZ.out) (head_one _ _ _) w.heap.size w HB.out GE_HY.out ?_; (case hgd => rfl); (case hN => rfl); (case ho => rfl); (case hx => rfl); (case hy => rfl); intro w_ hx_ ho_ hb_; clear cHG_0 cHG_1 cHG_2 cHX_n cHY_n; replace HG := Aside0.mk ((ho_ _ NE_HG_HY.out).trans HG.out); replace HX := Aside0.mk (HeadAt.other HX.out ho_ NE_HX_HY.out); clear HB; have HB := Aside0.mk hb_; clear hb_; clear HY; have HY : Aside0 (HeadAt w_ g8 0 (zeros 16) (zeros 8)) := ⟨hx_⟩; clear hx_ ho_; have cHG_0 := c3_0 HG.out; have cHG_1 := c3_1 HG.out; have cHG_2 := c3_2 HG.out; have cHX_n := cell_no HX.out; have cHY_n := cell_no HY.out)))
        refine bodyPost_ret (ret_head_t rfl _ _ g8 rfl HY.out HZ.out) rfl ?_
        exact ⟨rfl, HB.out⟩
      · obtain rfl : lo = 0 := by rw [hlo, if_neg hno]
        have hno' : (no == 0) = false := beq_eq_false_iff_ne.mpr hno
        clear hlo hno
        have HB := Aside0.mk (Below.refl w.heap.size w)
        go_enter Try.func22, Try.ntmps22
        go_wp2_with (first
            | ((with_reducible refine gate_dst (N := 4) rfl ?_); go_loud (refine box_event ?hg (N := 4) ?hd (cs := ([.int .i64 G, .int .i64 I, .int .i64 N]).toArray) (t := 23) ?hr ?_; (case hd => rfl); (case hg => rfl); (case hr => first | kernel_rfl | (go_simp; done) | (go_simp; rfl)); intro g4 hg w_ hx hb; have GE_HG := Aside0.mk (show w.heap.size ≤ g4 by have := HB.out.size; omega); clear hg; replace HB := Aside0.mk (below_step HB.out hb); clear hb; have HG : Aside0 (w_.heap[g4]? = some (.cells #[.int .i64 G, .int .i64 I, .int .i64 N] 23 (0, 0))) := ⟨hx⟩; clear hx; have cHG_0 := c3_0 HG.out; have cHG_1 := c3_1 HG.out; have cHG_2 := c3_2 HG.out))
            | ((with_reducible refine gate_dst (N := 5) rfl ?_); go_loud (refine box_event ?hg (N := 5) ?hd (cs := (headC no bl sl).toArray) (t := 28) ?hr ?_; (case hd => rfl); (case hg => rfl); (case hr => kernel_rfl); intro g5 hg w_ hx hb; have NE_HG_HX := Aside0.mk (new_ne HG.out hg); have GE_HX := Aside0.mk (show w.heap.size ≤ g5 by have := HB.out.size; omega); clear hg; clear cHG_0 cHG_1 cHG_2; replace HB := Aside0.mk (below_step HB.out hb); replace HG := Aside0.mk (blk_below HG.out hb); clear hb; have HX : Aside0 (HeadAt w_ g5 no bl sl) := ⟨hx⟩; clear hx; have cHG_0 := c3_0 HG.out; have cHG_1 := c3_1 HG.out; have cHG_2 := c3_2 HG.out; have cHX_n := cell_no HX.out))
            | ((with_reducible refine gate_dst (N := 8) rfl ?_); go_loud (refine box_event ?hg (N := 8) ?hd (cs := (headC 0 (zeros 16) (zeros 8)).toArray) (t := 28) ?hr ?_; (case hd => rfl); (case hg => rfl); (case hr => kernel_rfl); intro g8 hg w_ hx hb; have NE_HG_HY := Aside0.mk (new_ne HG.out hg); have NE_HX_HY := Aside0.mk (new_ne HX.out hg); have GE_HY := Aside0.mk (show w.heap.size ≤ g8 by have := HB.out.size; omega); clear hg; clear cHG_0 cHG_1 cHG_2 cHX_n; replace HB := Aside0.mk (below_step HB.out hb); replace HG := Aside0.mk (blk_below HG.out hb); replace HX := Aside0.mk (HeadAt.below HX.out hb); clear hb; have HY : Aside0 (HeadAt w_ g8 0 (zeros 16) (zeros 8)) := ⟨hx⟩; clear hx; have cHG_0 := c3_0 HG.out; have cHG_1 := c3_1 HG.out; have cHG_2 := c3_2 HG.out; have cHX_n := cell_no HX.out; have cHY_n := cell_no HY.out))
            | ((with_reducible refine gate_dst (N := 16) rfl ?_); go_loud (refine wl_head ?hw (.tmp 5) ?ho ?hx HX.out HM.out ?_; (case hw => first | rfl | (go_simp; done)); (case ho => rfl); (case hx => rfl)))
            | (go_at_call 43; go_loud (with_reducible refine (MA.out _).mono ?_; rintro e w_ ⟨rfl, hb⟩; clear cHG_0 cHG_1 cHG_2 cHX_n cHY_n; replace HB := Aside0.mk (below_step HB.out hb); replace HG := Aside0.mk (blk_below HG.out hb); replace HX := Aside0.mk (HeadAt.below HX.out hb); replace HY := Aside0.mk (HeadAt.below HY.out hb); clear hb; have cHG_0 := c3_0 HG.out; have cHG_1 := c3_1 HG.out; have cHG_2 := c3_2 HG.out; have cHX_n := cell_no HX.out; have cHY_n := cell_no HY.out))
            | (go_at_call 45; go_loud (with_reducible refine (use_sl_eq no bl sl g5 n on _ HH.out HX.out HN.out HBIT.out).mono ?_; rintro e w_ ⟨rfl, hb⟩; clear cHG_0 cHG_1 cHG_2 cHX_n cHY_n; replace HB := Aside0.mk (below_step HB.out hb); replace HG := Aside0.mk (blk_below HG.out hb); replace HX := Aside0.mk (HeadAt.below HX.out hb); replace HY := Aside0.mk (HeadAt.below HY.out hb); clear hb; have cHG_0 := c3_0 HG.out; have cHG_1 := c3_1 HG.out; have cHG_2 := c3_2 HG.out; have cHX_n := cell_no HX.out; have cHY_n := cell_no HY.out))
            | ((refine gate_store (t := 28) (p := 8) rfl ?_); go_loud (refine store_all (P := Try.prog) (t := 28) (p := 8) (v := .tmp 31) ?hgd ?hN ?ho g8 (headC 0 (zeros 16) (zeros 8)) ?hx ?hy _ _ HY.out (hi_head HZ.out) (hold_head HZ.out HZ.out) (head_one _ _ _) w.heap.size w HB.out GE_HY.out ?_; (case hgd => rfl); (case hN => rfl); (case ho => rfl); (case hx => rfl); (case hy => rfl); intro w_ hx_ ho_ hb_; clear cHG_0 cHG_1 cHG_2 cHX_n cHY_n; replace HG := Aside0.mk ((ho_ _ NE_HG_HY.out).trans HG.out); replace HX := Aside0.mk (HeadAt.other HX.out ho_ NE_HX_HY.out); clear HB; have HB := Aside0.mk hb_; clear hb_; clear HY; have HY : Aside0 (HeadAt w_ g8 0 (zeros 16) (zeros 8)) := ⟨hx_⟩; clear hx_ ho_; have cHG_0 := c3_0 HG.out; have cHG_1 := c3_1 HG.out; have cHG_2 := c3_2 HG.out; have cHX_n := cell_no HX.out; have cHY_n := cell_no HY.out)))
        refine bodyPost_ret (ret_head_t rfl _ _ g8 rfl HY.out HZ.out) rfl ?_
        exact ⟨rfl, HB.out⟩
    · rw [if_neg hbit]
      have HBIT := Aside0.mk hbit
      clear hbit
      by_cases hno : no = 0
      · obtain rfl : lo = 2 := by rw [hlo, if_pos hno]
        have hno' : (no == 0) = true := beq_iff_eq.mpr hno
        clear hlo hno
        have HB := Aside0.mk (Below.refl w.heap.size w)
        go_enter Try.func22, Try.ntmps22
        go_wp2_with (first
            | ((with_reducible refine gate_dst (N := 4) rfl ?_); go_loud (refine box_event ?hg (N := 4) ?hd (cs := ([.int .i64 G, .int .i64 I, .int .i64 N]).toArray) (t := 23) ?hr ?_; (case hd => rfl); (case hg => rfl); (case hr => first | kernel_rfl | (go_simp; done) | (go_simp; rfl)); intro g4 hg w_ hx hb; have GE_HG := Aside0.mk (show w.heap.size ≤ g4 by have := HB.out.size; omega); clear hg; replace HB := Aside0.mk (below_step HB.out hb); clear hb; have HG : Aside0 (w_.heap[g4]? = some (.cells #[.int .i64 G, .int .i64 I, .int .i64 N] 23 (0, 0))) := ⟨hx⟩; clear hx; have cHG_0 := c3_0 HG.out; have cHG_1 := c3_1 HG.out; have cHG_2 := c3_2 HG.out))
            | ((with_reducible refine gate_dst (N := 5) rfl ?_); go_loud (refine box_event ?hg (N := 5) ?hd (cs := (headC no bl sl).toArray) (t := 28) ?hr ?_; (case hd => rfl); (case hg => rfl); (case hr => kernel_rfl); intro g5 hg w_ hx hb; have NE_HG_HX := Aside0.mk (new_ne HG.out hg); have GE_HX := Aside0.mk (show w.heap.size ≤ g5 by have := HB.out.size; omega); clear hg; clear cHG_0 cHG_1 cHG_2; replace HB := Aside0.mk (below_step HB.out hb); replace HG := Aside0.mk (blk_below HG.out hb); clear hb; have HX : Aside0 (HeadAt w_ g5 no bl sl) := ⟨hx⟩; clear hx; have cHG_0 := c3_0 HG.out; have cHG_1 := c3_1 HG.out; have cHG_2 := c3_2 HG.out; have cHX_n := cell_no HX.out))
            | ((with_reducible refine gate_dst (N := 8) rfl ?_); go_loud (refine box_event ?hg (N := 8) ?hd (cs := (headC 0 (zeros 16) (zeros 8)).toArray) (t := 28) ?hr ?_; (case hd => rfl); (case hg => rfl); (case hr => kernel_rfl); intro g8 hg w_ hx hb; have NE_HG_HY := Aside0.mk (new_ne HG.out hg); have NE_HX_HY := Aside0.mk (new_ne HX.out hg); have GE_HY := Aside0.mk (show w.heap.size ≤ g8 by have := HB.out.size; omega); clear hg; clear cHG_0 cHG_1 cHG_2 cHX_n; replace HB := Aside0.mk (below_step HB.out hb); replace HG := Aside0.mk (blk_below HG.out hb); replace HX := Aside0.mk (HeadAt.below HX.out hb); clear hb; have HY : Aside0 (HeadAt w_ g8 0 (zeros 16) (zeros 8)) := ⟨hx⟩; clear hx; have cHG_0 := c3_0 HG.out; have cHG_1 := c3_1 HG.out; have cHG_2 := c3_2 HG.out; have cHX_n := cell_no HX.out; have cHY_n := cell_no HY.out))
            | ((with_reducible refine gate_dst (N := 16) rfl ?_); go_loud (refine wl_head ?hw (.tmp 5) ?ho ?hx HX.out HM.out ?_; (case hw => first | rfl | (go_simp; done)); (case ho => rfl); (case hx => rfl)))
            | (go_at_call 43; go_loud (with_reducible refine (MA.out _).mono ?_; rintro e w_ ⟨rfl, hb⟩; clear cHG_0 cHG_1 cHG_2 cHX_n cHY_n; replace HB := Aside0.mk (below_step HB.out hb); replace HG := Aside0.mk (blk_below HG.out hb); replace HX := Aside0.mk (HeadAt.below HX.out hb); replace HY := Aside0.mk (HeadAt.below HY.out hb); clear hb; have cHG_0 := c3_0 HG.out; have cHG_1 := c3_1 HG.out; have cHG_2 := c3_2 HG.out; have cHX_n := cell_no HX.out; have cHY_n := cell_no HY.out))
            | (go_at_call 45; go_loud (with_reducible refine (use_sl_ne no bl sl g5 n on _ HH.out HX.out HN.out HBIT.out).mono ?_; rintro e w_ ⟨rfl, hx, hg⟩; clear cHG_0 cHG_1 cHG_2 cHX_n cHY_n; replace HG := Aside0.mk (grown_blk HG.out hg NE_HG_HX.out); replace HY := Aside0.mk (HeadAt.grown HY.out hg (Ne.symm NE_HX_HY.out)); replace HB := Aside0.mk (grown_below HB.out hg GE_HX.out); clear HX; have HX := Aside0.mk hx; clear hx hg; have HY : Aside0 (HeadAt w_ g8 0 (zeros 16) (zeros 8)) := ⟨HY.out⟩; have cHG_0 := c3_0 HG.out; have cHG_1 := c3_1 HG.out; have cHG_2 := c3_2 HG.out; have cHX_n := cell_no HX.out; have cHY_n := cell_no HY.out))
            | ((with_reducible refine gate_dst (N := 33) rfl ?_); go_loud (refine wl_head ?hw (.tmp 5) ?ho ?hx HX.out HM2.out ?_; (case hw => first | rfl | (go_simp; done)); (case ho => rfl); (case hx => rfl)))
            | ((refine gate_store (t := 28) (p := 8) rfl ?_); go_loud (refine store_all (P := Try.prog) (t := 28) (p := 8) (v := .tmp 33) ?hgd ?hN ?ho g8 (headC no bl (Bits.setS sl n on)) ?hx ?hy _ _ HY.out (hi_head HM2.out) (hold_head HZ.out HM2.out) (head_one _ _ _) w.heap.size w HB.out GE_HY.out ?_; (case hgd => rfl); (case hN => rfl); (case ho => rfl); (case hx => rfl); (case hy => rfl); intro w_ hx_ ho_ hb_; clear cHG_0 cHG_1 cHG_2 cHX_n cHY_n; replace HG := Aside0.mk ((ho_ _ NE_HG_HY.out).trans HG.out); replace HX := Aside0.mk (HeadAt.other HX.out ho_ NE_HX_HY.out); clear HB; have HB := Aside0.mk hb_; clear hb_; clear HY; have HY : Aside0 (HeadAt w_ g8 no bl (Bits.setS sl n on)) := ⟨hx_⟩; clear hx_ ho_; have cHG_0 := c3_0 HG.out; have cHG_1 := c3_1 HG.out; have cHG_2 := c3_2 HG.out; have cHX_n := cell_no HX.out; have cHY_n := cell_no HY.out)))
        refine bodyPost_ret (ret_head_t rfl _ _ g8 rfl HY.out HM2.out) rfl ?_
        exact ⟨rfl, HB.out⟩
      · obtain rfl : lo = 0 := by rw [hlo, if_neg hno]
        have hno' : (no == 0) = false := beq_eq_false_iff_ne.mpr hno
        clear hlo hno
        have HB := Aside0.mk (Below.refl w.heap.size w)
        go_enter Try.func22, Try.ntmps22
        go_wp2_with (first
            | ((with_reducible refine gate_dst (N := 4) rfl ?_); go_loud (refine box_event ?hg (N := 4) ?hd (cs := ([.int .i64 G, .int .i64 I, .int .i64 N]).toArray) (t := 23) ?hr ?_; (case hd => rfl); (case hg => rfl); (case hr => first | kernel_rfl | (go_simp; done) | (go_simp; rfl)); intro g4 hg w_ hx hb; have GE_HG := Aside0.mk (show w.heap.size ≤ g4 by have := HB.out.size; omega); clear hg; replace HB := Aside0.mk (below_step HB.out hb); clear hb; have HG : Aside0 (w_.heap[g4]? = some (.cells #[.int .i64 G, .int .i64 I, .int .i64 N] 23 (0, 0))) := ⟨hx⟩; clear hx; have cHG_0 := c3_0 HG.out; have cHG_1 := c3_1 HG.out; have cHG_2 := c3_2 HG.out))
            | ((with_reducible refine gate_dst (N := 5) rfl ?_); go_loud (refine box_event ?hg (N := 5) ?hd (cs := (headC no bl sl).toArray) (t := 28) ?hr ?_; (case hd => rfl); (case hg => rfl); (case hr => kernel_rfl); intro g5 hg w_ hx hb; have NE_HG_HX := Aside0.mk (new_ne HG.out hg); have GE_HX := Aside0.mk (show w.heap.size ≤ g5 by have := HB.out.size; omega); clear hg; clear cHG_0 cHG_1 cHG_2; replace HB := Aside0.mk (below_step HB.out hb); replace HG := Aside0.mk (blk_below HG.out hb); clear hb; have HX : Aside0 (HeadAt w_ g5 no bl sl) := ⟨hx⟩; clear hx; have cHG_0 := c3_0 HG.out; have cHG_1 := c3_1 HG.out; have cHG_2 := c3_2 HG.out; have cHX_n := cell_no HX.out))
            | ((with_reducible refine gate_dst (N := 8) rfl ?_); go_loud (refine box_event ?hg (N := 8) ?hd (cs := (headC 0 (zeros 16) (zeros 8)).toArray) (t := 28) ?hr ?_; (case hd => rfl); (case hg => rfl); (case hr => kernel_rfl); intro g8 hg w_ hx hb; have NE_HG_HY := Aside0.mk (new_ne HG.out hg); have NE_HX_HY := Aside0.mk (new_ne HX.out hg); have GE_HY := Aside0.mk (show w.heap.size ≤ g8 by have := HB.out.size; omega); clear hg; clear cHG_0 cHG_1 cHG_2 cHX_n; replace HB := Aside0.mk (below_step HB.out hb); replace HG := Aside0.mk (blk_below HG.out hb); replace HX := Aside0.mk (HeadAt.below HX.out hb); clear hb; have HY : Aside0 (HeadAt w_ g8 0 (zeros 16) (zeros 8)) := ⟨hx⟩; clear hx; have cHG_0 := c3_0 HG.out; have cHG_1 := c3_1 HG.out; have cHG_2 := c3_2 HG.out; have cHX_n := cell_no HX.out; have cHY_n := cell_no HY.out))
            | ((with_reducible refine gate_dst (N := 16) rfl ?_); go_loud (refine wl_head ?hw (.tmp 5) ?ho ?hx HX.out HM.out ?_; (case hw => first | rfl | (go_simp; done)); (case ho => rfl); (case hx => rfl)))
            | (go_at_call 43; go_loud (with_reducible refine (MA.out _).mono ?_; rintro e w_ ⟨rfl, hb⟩; clear cHG_0 cHG_1 cHG_2 cHX_n cHY_n; replace HB := Aside0.mk (below_step HB.out hb); replace HG := Aside0.mk (blk_below HG.out hb); replace HX := Aside0.mk (HeadAt.below HX.out hb); replace HY := Aside0.mk (HeadAt.below HY.out hb); clear hb; have cHG_0 := c3_0 HG.out; have cHG_1 := c3_1 HG.out; have cHG_2 := c3_2 HG.out; have cHX_n := cell_no HX.out; have cHY_n := cell_no HY.out))
            | (go_at_call 45; go_loud (with_reducible refine (use_sl_ne no bl sl g5 n on _ HH.out HX.out HN.out HBIT.out).mono ?_; rintro e w_ ⟨rfl, hx, hg⟩; clear cHG_0 cHG_1 cHG_2 cHX_n cHY_n; replace HG := Aside0.mk (grown_blk HG.out hg NE_HG_HX.out); replace HY := Aside0.mk (HeadAt.grown HY.out hg (Ne.symm NE_HX_HY.out)); replace HB := Aside0.mk (grown_below HB.out hg GE_HX.out); clear HX; have HX := Aside0.mk hx; clear hx hg; have HY : Aside0 (HeadAt w_ g8 0 (zeros 16) (zeros 8)) := ⟨HY.out⟩; have cHG_0 := c3_0 HG.out; have cHG_1 := c3_1 HG.out; have cHG_2 := c3_2 HG.out; have cHX_n := cell_no HX.out; have cHY_n := cell_no HY.out))
            | ((with_reducible refine gate_dst (N := 33) rfl ?_); go_loud (refine wl_head ?hw (.tmp 5) ?ho ?hx HX.out HM2.out ?_; (case hw => first | rfl | (go_simp; done)); (case ho => rfl); (case hx => rfl)))
            | ((refine gate_store (t := 28) (p := 8) rfl ?_); go_loud (refine store_all (P := Try.prog) (t := 28) (p := 8) (v := .tmp 33) ?hgd ?hN ?ho g8 (headC no bl (Bits.setS sl n on)) ?hx ?hy _ _ HY.out (hi_head HM2.out) (hold_head HZ.out HM2.out) (head_one _ _ _) w.heap.size w HB.out GE_HY.out ?_; (case hgd => rfl); (case hN => rfl); (case ho => rfl); (case hx => rfl); (case hy => rfl); intro w_ hx_ ho_ hb_; clear cHG_0 cHG_1 cHG_2 cHX_n cHY_n; replace HG := Aside0.mk ((ho_ _ NE_HG_HY.out).trans HG.out); replace HX := Aside0.mk (HeadAt.other HX.out ho_ NE_HX_HY.out); clear HB; have HB := Aside0.mk hb_; clear hb_; clear HY; have HY : Aside0 (HeadAt w_ g8 no bl (Bits.setS sl n on)) := ⟨hx_⟩; clear hx_ ho_; have cHG_0 := c3_0 HG.out; have cHG_1 := c3_1 HG.out; have cHG_2 := c3_2 HG.out; have cHX_n := cell_no HX.out; have cHY_n := cell_no HY.out)))
        refine bodyPost_ret (ret_head_t rfl _ _ g8 rfl HY.out HM2.out) rfl ?_
        exact ⟨rfl, HB.out⟩
  · rw [if_neg h0]
    have hm1 : (m == 0) = false := beq_eq_false_iff_ne.mpr h0
    have hm2 : (m != 0) = true := bne_iff_ne.mpr h0
    clear hm hi hmay h0
    by_cases hno : no = 0
    · obtain rfl : lo = 2 := by rw [hlo, if_pos hno]
      have hno' : (no == 0) = true := beq_iff_eq.mpr hno
      clear hlo hno
      have HB := Aside0.mk (Below.refl w.heap.size w)
      go_enter Try.func22, Try.ntmps22
      go_wp2_with (first
          | ((with_reducible refine gate_dst (N := 4) rfl ?_); go_loud (refine box_event ?hg (N := 4) ?hd (cs := ([.int .i64 G, .int .i64 I, .int .i64 N]).toArray) (t := 23) ?hr ?_; (case hd => rfl); (case hg => rfl); (case hr => first | kernel_rfl | (go_simp; done) | (go_simp; rfl)); intro g4 hg w_ hx hb; have GE_HG := Aside0.mk (show w.heap.size ≤ g4 by have := HB.out.size; omega); clear hg; replace HB := Aside0.mk (below_step HB.out hb); clear hb; have HG : Aside0 (w_.heap[g4]? = some (.cells #[.int .i64 G, .int .i64 I, .int .i64 N] 23 (0, 0))) := ⟨hx⟩; clear hx; have cHG_0 := c3_0 HG.out; have cHG_1 := c3_1 HG.out; have cHG_2 := c3_2 HG.out))
          | ((with_reducible refine gate_dst (N := 5) rfl ?_); go_loud (refine box_event ?hg (N := 5) ?hd (cs := (headC no bl sl).toArray) (t := 28) ?hr ?_; (case hd => rfl); (case hg => rfl); (case hr => kernel_rfl); intro g5 hg w_ hx hb; have NE_HG_HX := Aside0.mk (new_ne HG.out hg); have GE_HX := Aside0.mk (show w.heap.size ≤ g5 by have := HB.out.size; omega); clear hg; clear cHG_0 cHG_1 cHG_2; replace HB := Aside0.mk (below_step HB.out hb); replace HG := Aside0.mk (blk_below HG.out hb); clear hb; have HX : Aside0 (HeadAt w_ g5 no bl sl) := ⟨hx⟩; clear hx; have cHG_0 := c3_0 HG.out; have cHG_1 := c3_1 HG.out; have cHG_2 := c3_2 HG.out; have cHX_n := cell_no HX.out))
          | ((with_reducible refine gate_dst (N := 8) rfl ?_); go_loud (refine box_event ?hg (N := 8) ?hd (cs := (headC 0 (zeros 16) (zeros 8)).toArray) (t := 28) ?hr ?_; (case hd => rfl); (case hg => rfl); (case hr => kernel_rfl); intro g8 hg w_ hx hb; have NE_HG_HY := Aside0.mk (new_ne HG.out hg); have NE_HX_HY := Aside0.mk (new_ne HX.out hg); have GE_HY := Aside0.mk (show w.heap.size ≤ g8 by have := HB.out.size; omega); clear hg; clear cHG_0 cHG_1 cHG_2 cHX_n; replace HB := Aside0.mk (below_step HB.out hb); replace HG := Aside0.mk (blk_below HG.out hb); replace HX := Aside0.mk (HeadAt.below HX.out hb); clear hb; have HY : Aside0 (HeadAt w_ g8 0 (zeros 16) (zeros 8)) := ⟨hx⟩; clear hx; have cHG_0 := c3_0 HG.out; have cHG_1 := c3_1 HG.out; have cHG_2 := c3_2 HG.out; have cHX_n := cell_no HX.out; have cHY_n := cell_no HY.out))
          | ((with_reducible refine gate_dst (N := 16) rfl ?_); go_loud (refine wl_head ?hw (.tmp 5) ?ho ?hx HX.out HM.out ?_; (case hw => first | rfl | (go_simp; done)); (case ho => rfl); (case hx => rfl)))
          | (go_at_call 43; go_loud (with_reducible refine (MA.out _).mono ?_; rintro e w_ ⟨rfl, hb⟩; clear cHG_0 cHG_1 cHG_2 cHX_n cHY_n; replace HB := Aside0.mk (below_step HB.out hb); replace HG := Aside0.mk (blk_below HG.out hb); replace HX := Aside0.mk (HeadAt.below HX.out hb); replace HY := Aside0.mk (HeadAt.below HY.out hb); clear hb; have cHG_0 := c3_0 HG.out; have cHG_1 := c3_1 HG.out; have cHG_2 := c3_2 HG.out; have cHX_n := cell_no HX.out; have cHY_n := cell_no HY.out))
          | ((refine gate_store (t := 28) (p := 8) rfl ?_); go_loud (refine store_all (P := Try.prog) (t := 28) (p := 8) (v := .tmp 31) ?hgd ?hN ?ho g8 (headC 0 (zeros 16) (zeros 8)) ?hx ?hy _ _ HY.out (hi_head HZ.out) (hold_head HZ.out HZ.out) (head_one _ _ _) w.heap.size w HB.out GE_HY.out ?_; (case hgd => rfl); (case hN => rfl); (case ho => rfl); (case hx => rfl); (case hy => rfl); intro w_ hx_ ho_ hb_; clear cHG_0 cHG_1 cHG_2 cHX_n cHY_n; replace HG := Aside0.mk ((ho_ _ NE_HG_HY.out).trans HG.out); replace HX := Aside0.mk (HeadAt.other HX.out ho_ NE_HX_HY.out); clear HB; have HB := Aside0.mk hb_; clear hb_; clear HY; have HY : Aside0 (HeadAt w_ g8 0 (zeros 16) (zeros 8)) := ⟨hx_⟩; clear hx_ ho_; have cHG_0 := c3_0 HG.out; have cHG_1 := c3_1 HG.out; have cHG_2 := c3_2 HG.out; have cHX_n := cell_no HX.out; have cHY_n := cell_no HY.out)))
      refine bodyPost_ret (ret_head_t rfl _ _ g8 rfl HY.out HZ.out) rfl ?_
      exact ⟨rfl, HB.out⟩
    · obtain rfl : lo = 0 := by rw [hlo, if_neg hno]
      have hno' : (no == 0) = false := beq_eq_false_iff_ne.mpr hno
      clear hlo hno
      have HB := Aside0.mk (Below.refl w.heap.size w)
      go_enter Try.func22, Try.ntmps22
      go_wp2_with (first
          | ((with_reducible refine gate_dst (N := 4) rfl ?_); go_loud (refine box_event ?hg (N := 4) ?hd (cs := ([.int .i64 G, .int .i64 I, .int .i64 N]).toArray) (t := 23) ?hr ?_; (case hd => rfl); (case hg => rfl); (case hr => first | kernel_rfl | (go_simp; done) | (go_simp; rfl)); intro g4 hg w_ hx hb; have GE_HG := Aside0.mk (show w.heap.size ≤ g4 by have := HB.out.size; omega); clear hg; replace HB := Aside0.mk (below_step HB.out hb); clear hb; have HG : Aside0 (w_.heap[g4]? = some (.cells #[.int .i64 G, .int .i64 I, .int .i64 N] 23 (0, 0))) := ⟨hx⟩; clear hx; have cHG_0 := c3_0 HG.out; have cHG_1 := c3_1 HG.out; have cHG_2 := c3_2 HG.out))
          | ((with_reducible refine gate_dst (N := 5) rfl ?_); go_loud (refine box_event ?hg (N := 5) ?hd (cs := (headC no bl sl).toArray) (t := 28) ?hr ?_; (case hd => rfl); (case hg => rfl); (case hr => kernel_rfl); intro g5 hg w_ hx hb; have NE_HG_HX := Aside0.mk (new_ne HG.out hg); have GE_HX := Aside0.mk (show w.heap.size ≤ g5 by have := HB.out.size; omega); clear hg; clear cHG_0 cHG_1 cHG_2; replace HB := Aside0.mk (below_step HB.out hb); replace HG := Aside0.mk (blk_below HG.out hb); clear hb; have HX : Aside0 (HeadAt w_ g5 no bl sl) := ⟨hx⟩; clear hx; have cHG_0 := c3_0 HG.out; have cHG_1 := c3_1 HG.out; have cHG_2 := c3_2 HG.out; have cHX_n := cell_no HX.out))
          | ((with_reducible refine gate_dst (N := 8) rfl ?_); go_loud (refine box_event ?hg (N := 8) ?hd (cs := (headC 0 (zeros 16) (zeros 8)).toArray) (t := 28) ?hr ?_; (case hd => rfl); (case hg => rfl); (case hr => kernel_rfl); intro g8 hg w_ hx hb; have NE_HG_HY := Aside0.mk (new_ne HG.out hg); have NE_HX_HY := Aside0.mk (new_ne HX.out hg); have GE_HY := Aside0.mk (show w.heap.size ≤ g8 by have := HB.out.size; omega); clear hg; clear cHG_0 cHG_1 cHG_2 cHX_n; replace HB := Aside0.mk (below_step HB.out hb); replace HG := Aside0.mk (blk_below HG.out hb); replace HX := Aside0.mk (HeadAt.below HX.out hb); clear hb; have HY : Aside0 (HeadAt w_ g8 0 (zeros 16) (zeros 8)) := ⟨hx⟩; clear hx; have cHG_0 := c3_0 HG.out; have cHG_1 := c3_1 HG.out; have cHG_2 := c3_2 HG.out; have cHX_n := cell_no HX.out; have cHY_n := cell_no HY.out))
          | ((with_reducible refine gate_dst (N := 16) rfl ?_); go_loud (refine wl_head ?hw (.tmp 5) ?ho ?hx HX.out HM.out ?_; (case hw => first | rfl | (go_simp; done)); (case ho => rfl); (case hx => rfl)))
          | (go_at_call 43; go_loud (with_reducible refine (MA.out _).mono ?_; rintro e w_ ⟨rfl, hb⟩; clear cHG_0 cHG_1 cHG_2 cHX_n cHY_n; replace HB := Aside0.mk (below_step HB.out hb); replace HG := Aside0.mk (blk_below HG.out hb); replace HX := Aside0.mk (HeadAt.below HX.out hb); replace HY := Aside0.mk (HeadAt.below HY.out hb); clear hb; have cHG_0 := c3_0 HG.out; have cHG_1 := c3_1 HG.out; have cHG_2 := c3_2 HG.out; have cHX_n := cell_no HX.out; have cHY_n := cell_no HY.out))
          | ((refine gate_store (t := 28) (p := 8) rfl ?_); go_loud (refine store_all (P := Try.prog) (t := 28) (p := 8) (v := .tmp 31) ?hgd ?hN ?ho g8 (headC 0 (zeros 16) (zeros 8)) ?hx ?hy _ _ HY.out (hi_head HZ.out) (hold_head HZ.out HZ.out) (head_one _ _ _) w.heap.size w HB.out GE_HY.out ?_; (case hgd => rfl); (case hN => rfl); (case ho => rfl); (case hx => rfl); (case hy => rfl); intro w_ hx_ ho_ hb_; clear cHG_0 cHG_1 cHG_2 cHX_n cHY_n; replace HG := Aside0.mk ((ho_ _ NE_HG_HY.out).trans HG.out); replace HX := Aside0.mk (HeadAt.other HX.out ho_ NE_HX_HY.out); clear HB; have HB := Aside0.mk hb_; clear hb_; clear HY; have HY : Aside0 (HeadAt w_ g8 0 (zeros 16) (zeros 8)) := ⟨hx_⟩; clear hx_ ho_; have cHG_0 := c3_0 HG.out; have cHG_1 := c3_1 HG.out; have cHG_2 := c3_2 HG.out; have cHX_n := cell_no HX.out; have cHY_n := cell_no HY.out)))
      refine bodyPost_ret (ret_head_t rfl _ _ g8 rfl HY.out HZ.out) rfl ?_
      exact ⟨rfl, HB.out⟩
end Go.Proofs.Ytonkgfgciegknaa.P