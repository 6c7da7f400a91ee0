/-
group.Get, walked by hand.
Conditions: none.
-/
import Derived.Test.YtonkgfgciegknaaHandGroup7
import Derived.Test.YtonkgfgciegknaaPlain
namespace Go.Proofs.Ytonkgfgciegknaa.P
open Go.RowKit Go.Proofs.YtonkgfgciegknaaW.PrintWords Go.Proofs.YtonkgfgciegknaaW.PrintLast Go.Proofs.YtonkgfgciegknaaW.PrintMore
attribute [local go_sem] max2_int min2_int max_two min_two max_three min_three max_four min_four
set_option linter.unusedVariables false
set_option linter.unusedSimpArgs false
theorem sg_drop (A0 : Option Addr) (c0 : Nat) (l0 : List Int) (j : Int) (n m : Nat) (hn : j = (n : Int)) (hj : l0.length = n + m) (hc : l0.length ≤ c0) :
    ∃ A : Option Addr, (∀ W : World, (Instr.slice 24 (.slice A0 l0.length c0) (some (.int .i64 j)) none none).run Try.prog W = .ok (.slice A m (c0 - n)) W) ∧ (∀ w, Kd.C (Kd.int .u8) w A0 l0.length l0 → Kd.C (Kd.int .u8) w A m (l0.drop n)) ∧ (l0.drop n).length = m ∧ m ≤ c0 - n := by
  subst hn
  obtain ⟨i0, hi, _, hsz, _⟩ := info_parts info5
  obtain ⟨A, h1, h2, h3⟩ := print_drop_of (P := Try.prog) (Value.int .u8) 0 24 5 .i64 Try.underlying24 hi hsz A0 c0 l0 (n : Int) (by omega) (by omega) hc
  have hlen : (l0.drop n).length = m := by rw [List.length_drop]; omega
  rw [Int.toNat_natCast, hlen] at h2 h3
  simp only [Int.toNat_natCast, hlen] at h1
  exact ⟨A, h1, fun w h => Kd.C_of_reads (h1 := fun _ => rfl) (h2 w (Kd.reads_of_C h)), hlen, h3⟩
theorem sg_mid (A0 : Option Addr) (c0 : Nat) (l0 : List Int) (i j : Int) (p q m : Nat) (hp : i = (p : Int)) (hq : j = (q : Int)) (hm : q = p + m) (hj : q ≤ l0.length) (hc : l0.length ≤ c0) :
    ∃ A : Option Addr, (∀ W : World, (Instr.slice 24 (.slice A0 l0.length c0) (some (.int .i64 i)) (some (.int .i64 j)) none).run Try.prog W = .ok (.slice A m (c0 - p)) W) ∧ (∀ w, Kd.C (Kd.int .u8) w A0 l0.length l0 → Kd.C (Kd.int .u8) w A m ((l0.take q).drop p)) ∧ ((l0.take q).drop p).length = m ∧ m ≤ c0 - p := by
  subst hp
  subst hq
  obtain ⟨i0, hi, _, hsz, _⟩ := info_parts info5
  obtain ⟨A, h1, h2, h3⟩ := print_mid_of (P := Try.prog) (Value.int .u8) 0 24 5 .i64 .i64 Try.underlying24 hi hsz A0 c0 l0 (p : Int) (q : Int) (by omega) (by omega) (by omega) hc
  have hlen : ((l0.take q).drop p).length = m := by rw [List.length_drop, List.length_take]; omega
  rw [Int.toNat_natCast, Int.toNat_natCast, hlen] at h2 h3
  simp only [Int.toNat_natCast, hlen] at h1
  exact ⟨A, h1, fun w h => Kd.C_of_reads (h1 := fun _ => rfl) (h2 w (Kd.reads_of_C h)), hlen, h3⟩
theorem get_n (k : Nat) (A : Option Addr) (c n : Nat) (l : List Int) (r : Int) (w : World) (hn : l.length = n) (hC : Kd.C (Kd.int .u8) w A n l) (hc : n ≤ c) (h : num_Get.f k l = some r) :
    Calls Try.prog 34 #[.slice A n c] w fun e w' => e = .returned (.int .u64 r) ∧ Below w.heap.size w w' := by
  subst hn
  exact num_Get.calls k A c l r w hC hc h
theorem C_of_blk {w : World} {g : Nat} {l : List Int} {t : TypeId} (h : w.heap[g]? = some (.cells (nums .u8 l).toArray t (0, 0))) (hl : l.length ≤ 1000) : Kd.C (Kd.int .u8) w (some ⟨g, 0, none⟩) l.length l :=
  (Kd.R_reads' (R_of_block (k := .u8) (ok := fun _ => True) (base := 0) (xs := l) h (Nat.zero_le _) (by rw [List.take_of_length_le (by rw [nums_length]; exact Nat.le_refl _)]) (by rw [nums_length, maxLen]; omega) trivial)).2.2
/-- Where two lists differ: whether they do. -/
theorem Diff_all (l m : List Int) (hl : l.length ≤ 1000) (hm : m.length ≤ 1000) (M : Nat) (hM : l.length ≤ M ∧ m.length ≤ M ∧ (M = l.length ∨ M = m.length)) : ∀ (d i k : Nat) (x y : Int), i + d = M → 2 * d < k →
    ∃ x' y', num_Diff.l0 k l m x y (M : Int) (i : Int) = some (x', y') ∧ (0 ≤ x' ↔ 0 ≤ x ∨ ∃ j, i ≤ j ∧ j < M ∧ ¬ (j < l.length ∧ j < m.length ∧ rd l (j : Int) = rd m (j : Int))) := by
  intro d
  induction d with
  | zero =>
    intro i k x y hi hk
    obtain ⟨k, rfl⟩ : ∃ m, k = m + 1 := ⟨k - 1, by omega⟩
    simp only [num_Diff.l0]
    rw [if_neg (by omega)]
    exact ⟨_, _, rfl, ⟨.inl, fun h => h.elim id (fun ⟨j, h1, h2, _⟩ => by omega)⟩⟩
  | succ d ih =>
    intro i k x y hi hk
    obtain ⟨k, rfl⟩ : ∃ m, k = m + 2 := ⟨k - 2, by omega⟩
    have hw : wrap64 ((i : Int) + 1) = ((i + 1 : Nat) : Int) := by unfold wrap64; omega
    obtain ⟨q, hmn, hq1, hq2, hq3⟩ : ∃ q : Nat, mn (l.length : Int) (m.length : Int) = (q : Int) ∧ q ≤ l.length ∧ q ≤ m.length ∧ (q = l.length ∨ q = m.length) := by
      unfold mn
      split
      · exact ⟨m.length, rfl, by omega, by omega, .inr rfl⟩
      · exact ⟨l.length, rfl, by omega, by omega, .inl rfl⟩
    simp only [num_Diff.l0]
    rw [if_pos (by omega), hmn]
    have more : ∀ P : Prop, (∃ j, i ≤ j ∧ j < M ∧ ¬ (j < l.length ∧ j < m.length ∧ rd l (j : Int) = rd m (j : Int))) ↔ (¬ (i < l.length ∧ i < m.length ∧ rd l (i : Int) = rd m (i : Int)) ∨ ∃ j, i + 1 ≤ j ∧ j < M ∧ ¬ (j < l.length ∧ j < m.length ∧ rd l (j : Int) = rd m (j : Int))) := fun _ => by
      constructor
      · rintro ⟨j, h1, h2, h3⟩
        by_cases e : j = i
        · subst e; exact .inl h3
        · exact .inr ⟨j, by omega, h2, h3⟩
      · rintro (h | ⟨j, h1, h2, h3⟩)
        · exact ⟨i, Nat.le_refl _, by omega, h⟩
        · exact ⟨j, by omega, h2, h3⟩
    rw [more True]
    by_cases h1 : i < q
    · rw [if_pos (by omega), if_pos (by omega), if_pos (by omega), if_pos (by omega)]
      simp only [num_Diff.j1, hw]
      by_cases hb : rd l (i : Int) = rd m (i : Int)
      · rw [if_pos (by rw [hb]; simp)]
        obtain ⟨x', y', e, h⟩ := ih (i + 1) k x y (by omega) (by omega)
        exact ⟨x', y', e, by rw [h]; exact ⟨fun q => q.elim .inl (fun q => .inr (.inr q)), fun q => q.elim .inl (fun q => q.elim (fun q => absurd ⟨by omega, by omega, hb⟩ q) .inr)⟩⟩
      · rw [if_neg (by simpa using hb)]
        have hne : ¬ (i < l.length ∧ i < m.length ∧ rd l (i : Int) = rd m (i : Int)) := fun q => hb q.2.2
        by_cases hx0 : x < 0
        · rw [if_pos hx0]
          obtain ⟨x', y', e, h⟩ := ih (i + 1) k (i : Int) ((i + 1 : Nat) : Int) (by omega) (by omega)
          exact ⟨x', y', e, by rw [h]; exact ⟨fun _ => .inr (.inl hne), fun _ => .inl (by omega)⟩⟩
        · rw [if_neg hx0]
          obtain ⟨x', y', e, h⟩ := ih (i + 1) k x ((i + 1 : Nat) : Int) (by omega) (by omega)
          exact ⟨x', y', e, by rw [h]; exact ⟨fun _ => .inl (by omega), fun _ => .inl (by omega)⟩⟩
    · rw [if_neg (by omega)]
      simp only [num_Diff.j1, hw]
      rw [if_neg (by decide)]
      have hne : ¬ (i < l.length ∧ i < m.length ∧ rd l (i : Int) = rd m (i : Int)) := fun q => h1 (by omega)
      by_cases hx0 : x < 0
      · rw [if_pos hx0]
        obtain ⟨x', y', e, h⟩ := ih (i + 1) k (i : Int) ((i + 1 : Nat) : Int) (by omega) (by omega)
        exact ⟨x', y', e, by rw [h]; exact ⟨fun _ => .inr (.inl hne), fun _ => .inl (by omega)⟩⟩
      · rw [if_neg hx0]
        obtain ⟨x', y', e, h⟩ := ih (i + 1) k x ((i + 1 : Nat) : Int) (by omega) (by omega)
        exact ⟨x', y', e, by rw [h]; exact ⟨fun _ => .inl (by omega), fun _ => .inl (by omega)⟩⟩
theorem Diff_any (l m : List Int) (hl : l.length ≤ 1000) (hm : m.length ≤ 1000) : ∃ x y, num_Diff.f 3000 l m = some (x, y) ∧ (0 ≤ x ↔ l ≠ m) := by
  obtain ⟨M, hmx, hM⟩ : ∃ M : Nat, mx (l.length : Int) (m.length : Int) = (M : Int) ∧ (l.length ≤ M ∧ m.length ≤ M ∧ (M = l.length ∨ M = m.length)) := by
    unfold mx
    split
    · exact ⟨m.length, rfl, by omega, by omega, .inr rfl⟩
    · exact ⟨l.length, rfl, by omega, by omega, .inl rfl⟩
  obtain ⟨x, y, e, h⟩ := Diff_all l m hl hm M hM M 0 3000 (-1) (-1) (by omega) (by omega)
  refine ⟨x, y, by unfold num_Diff.f; rw [hmx]; exact e, ?_⟩
  rw [h]
  clear h e hmx
  constructor
  · rintro (h | ⟨j, _, _, h3⟩)
    · omega
    · rintro rfl
      exact h3 ⟨by omega, by omega, rfl⟩
  · intro hne
    refine .inr (Classical.byContradiction fun hno => hne ?_)
    have hall : ∀ j, j < M → j < l.length ∧ j < m.length ∧ rd l (j : Int) = rd m (j : Int) := fun j hj => Classical.byContradiction fun q => hno ⟨j, Nat.zero_le _, hj, q⟩
    have hlen : l.length = m.length := by
      have h1 := fun h => (hall l.length h).1
      have h2 := fun h => (hall m.length h).2.1
      omega
    refine List.ext_getElem hlen fun i h1 h2 => ?_
    have := (hall i (by omega)).2.2
    simpa [rd, h1, h2] using this
def gbl (l : List Int) : List Int := (l.drop 16).take 16
def gsl (l : List Int) : List Int := (l.drop 32).take 8
theorem gbl_length {l : List Int} (h : l.length = 256) : (gbl l).length = 16 := by rw [gbl, List.length_take, List.length_drop]; omega
theorem gsl_length {l : List Int} (h : l.length = 256) : (gsl l).length = 8 := by rw [gsl, List.length_take, List.length_drop]; omega
theorem take_bytes {l : List Int} (h : Bits.isBytes l) (n : Nat) : Bits.isBytes (l.take n) := fun x hx => h x (List.mem_of_mem_take hx)
theorem drop_bytes {l : List Int} (h : Bits.isBytes l) (n : Nat) : Bits.isBytes (l.drop n) := fun x hx => h x (List.mem_of_mem_drop hx)
theorem got_HM {l : List Int} (h : l.length = 256) (hb : Bits.isBytes l) : HM (gbl l) (gsl l) := ⟨⟨gbl_length h, gsl_length h⟩, take_bytes (drop_bytes hb _) _, take_bytes (drop_bytes hb _) _⟩
def noOf (l : List Int) : Int := Plain.cutG l 4 6
theorem noOf_range {l : List Int} (h : l.length = 256) (hb : Bits.isBytes l) : 0 ≤ noOf l ∧ noOf l < 65536 := Plain.cut_range hb 4 6 (by omega)
/-- What bytes hold: so that they are a header's, laid again. -/
def goodP (G I N : Int) (l : List Int) : Bool := rightP G I N (noOf l) (gbl l) (gsl l) && decide (l = putL (noOf l) (freeP G I N (noOf l) (gbl l) (gsl l)).1 (freeP G I N (noOf l) (gbl l) (gsl l)).2 (gbl l) (gsl l))
def getP (G I N : Int) (l : List Int) : Int × List Int × List Int × Int :=
  if Geo.R G I N = true then
    if l.length = 256 then (if goodP G I N l = true then (noOf l, gbl l, gsl l, 0) else (0, zeros 16, zeros 8, 8)) else (0, zeros 16, zeros 8, 4)
  else (0, zeros 16, zeros 8, 1)
set_option maxHeartbeats 16000000 in
set_option maxRecDepth 100000 in
theorem gget_1 (G I N : Int) (A0 : Option Addr) (n c0 : Nat) (w : World) (hR : Geo.R G I N = false) :
    Calls Try.prog 11 #[.agg #[.int .i64 G, .int .i64 I, .int .i64 N], .slice A0 n c0] w fun e w' => e = .returned (.tuple #[headV 0 (zeros 16) (zeros 8), .int .i64 1]) ∧ Below w.heap.size w w' := by
  have HR : Aside0 (geo_Right.f 2 G I N = some false) := ⟨by rw [Geo.Right_eq 0, hR]⟩
  have HZ := Aside0.mk zeros_maps
  clear hR
  have HB := Aside0.mk (Below.refl w.heap.size w)
  go_enter Try.func11, Try.ntmps11
  go_wp2_with (first
    | ((with_reducible refine gate_dst (N := 2) rfl ?_); go_loud (refine box_event ?hg (N := 2) ?hd (cs := ([.int .i64 G, .int .i64 I, .int .i64 N]).toArray) (t := 23) ?hr ?_; (case hd => rfl); (case hg => rfl); (case hr => first | kernel_rfl | (go_simp; done) | (go_simp; rfl)); intro g2 hg w_ hx hb; have GE_HG := Aside0.mk (show w.heap.size ≤ g2 by have := HB.out.size; omega); clear hg; replace HB := Aside0.mk (below_step HB.out hb); clear hb; have HG : Aside0 (w_.heap[g2]? = some (.cells #[.int .i64 G, .int .i64 I, .int .i64 N] 23 (0, 0))) := ⟨hx⟩; clear hx; have cHG_0 := c3_0 HG.out; have cHG_1 := c3_1 HG.out; have cHG_2 := c3_2 HG.out))
    | ((with_reducible refine gate_dst (N := 4) rfl ?_); go_loud (refine box_event ?hg (N := 4) ?hd (cs := (headC 0 (zeros 16) (zeros 8)).toArray) (t := 28) ?hr ?_; (case hd => rfl); (case hg => rfl); (case hr => kernel_rfl); intro g4 hg w_ hx hb; have NE_HG_HY := Aside0.mk (new_ne HG.out hg); have GE_HY := Aside0.mk (show w.heap.size ≤ g4 by have := HB.out.size; omega); clear hg; clear cHG_0 cHG_1 cHG_2; replace HB := Aside0.mk (below_step HB.out hb); replace HG := Aside0.mk (blk_below HG.out hb); clear hb; have HY : Aside0 (HeadAt w_ g4 0 (zeros 16) (zeros 8)) := ⟨hx⟩; clear hx; have cHG_0 := c3_0 HG.out; have cHG_1 := c3_1 HG.out; have cHG_2 := c3_2 HG.out; have cHY_n := cell_no HY.out))
    | (go_at_call 33; go_loud ((with_reducible refine (geo_Right.calls 2 G I N false _ HR.out).mono ?_); rintro e w_ ⟨rfl, hb⟩; clear cHG_0 cHG_1 cHG_2 cHY_n; replace HB := Aside0.mk (below_step HB.out hb); replace HG := Aside0.mk (blk_below HG.out hb); replace HY := Aside0.mk (HeadAt.below HY.out hb); clear hb; have cHG_0 := c3_0 HG.out; have cHG_1 := c3_1 HG.out; have cHG_2 := c3_2 HG.out; have cHY_n := cell_no HY.out))
    | ((refine gate_store (t := 28) (p := 4) rfl ?_); go_loud (refine store_all (P := Try.prog) (t := 28) (p := 4) (v := .tmp 15) ?hgd ?hN ?ho g4 (headC 0 (zeros 16) (zeros 8)) ?hx ?hy _ _ HY.out (hi_head HZ.out) (hold_head HZ.out HZ.out) (head_one _ _ _) w.heap.size w HB.out GE_HY.out ?_; (case hgd => rfl); (case hN => rfl); (case ho => rfl); (case hx => rfl); (case hy => rfl); intro w_ hx_ ho_ hb_; clear cHG_0 cHG_1 cHG_2 cHY_n; replace HG := Aside0.mk ((ho_ _ NE_HG_HY.out).trans HG.out); clear HB; have HB := Aside0.mk hb_; clear hb_; clear HY; have HY : Aside0 (HeadAt w_ g4 0 (zeros 16) (zeros 8)) := ⟨hx_⟩; clear hx_ ho_; have cHG_0 := c3_0 HG.out; have cHG_1 := c3_1 HG.out; have cHG_2 := c3_2 HG.out; have cHY_n := cell_no HY.out)))
  refine bodyPost_ret (ret_head_t rfl _ _ g4 rfl HY.out HZ.out) rfl ?_
  exact ⟨rfl, HB.out⟩
set_option maxHeartbeats 16000000 in
set_option maxRecDepth 100000 in
theorem gget_4 (G I N : Int) (A0 : Option Addr) (n c0 : Nat) (w : World) (hR : Geo.R G I N = true) (hn : n ≠ 256) :
    Calls Try.prog 11 #[.agg #[.int .i64 G, .int .i64 I, .int .i64 N], .slice A0 n c0] w fun e w' => e = .returned (.tuple #[headV 0 (zeros 16) (zeros 8), .int .i64 4]) ∧ Below w.heap.size w w' := by
  have HR : Aside0 (geo_Right.f 2 G I N = some true) := ⟨by rw [Geo.Right_eq 0, hR]⟩
  have HZ := Aside0.mk zeros_maps
  have hn1 : ((n : Int) != 256) = true := bne_iff_ne.mpr (by omega)
  have hn2 : ((n : Int) == 256) = false := beq_eq_false_iff_ne.mpr (by omega)
  clear hR hn
  have HB := Aside0.mk (Below.refl w.heap.size w)
  go_enter Try.func11, Try.ntmps11
  go_wp2_with (first
    | ((with_reducible refine gate_dst (N := 2) rfl ?_); go_loud (refine box_event ?hg (N := 2) ?hd (cs := ([.int .i64 G, .int .i64 I, .int .i64 N]).toArray) (t := 23) ?hr ?_; (case hd => rfl); (case hg => rfl); (case hr => first | kernel_rfl | (go_simp; done) | (go_simp; rfl)); intro g2 hg w_ hx hb; have GE_HG := Aside0.mk (show w.heap.size ≤ g2 by have := HB.out.size; omega); clear hg; replace HB := Aside0.mk (below_step HB.out hb); clear hb; have HG : Aside0 (w_.heap[g2]? = some (.cells #[.int .i64 G, .int .i64 I, .int .i64 N] 23 (0, 0))) := ⟨hx⟩; clear hx; have cHG_0 := c3_0 HG.out; have cHG_1 := c3_1 HG.out; have cHG_2 := c3_2 HG.out))
    | ((with_reducible refine gate_dst (N := 4) rfl ?_); go_loud (refine box_event ?hg (N := 4) ?hd (cs := (headC 0 (zeros 16) (zeros 8)).toArray) (t := 28) ?hr ?_; (case hd => rfl); (case hg => rfl); (case hr => kernel_rfl); intro g4 hg w_ hx hb; have NE_HG_HY := Aside0.mk (new_ne HG.out hg); have GE_HY := Aside0.mk (show w.heap.size ≤ g4 by have := HB.out.size; omega); clear hg; clear cHG_0 cHG_1 cHG_2; replace HB := Aside0.mk (below_step HB.out hb); replace HG := Aside0.mk (blk_below HG.out hb); clear hb; have HY : Aside0 (HeadAt w_ g4 0 (zeros 16) (zeros 8)) := ⟨hx⟩; clear hx; have cHG_0 := c3_0 HG.out; have cHG_1 := c3_1 HG.out; have cHG_2 := c3_2 HG.out; have cHY_n := cell_no HY.out))
    | (go_at_call 33; go_loud ((with_reducible refine (geo_Right.calls 2 G I N true _ HR.out).mono ?_); rintro e w_ ⟨rfl, hb⟩; clear cHG_0 cHG_1 cHG_2 cHY_n; replace HB := Aside0.mk (below_step HB.out hb); replace HG := Aside0.mk (blk_below HG.out hb); replace HY := Aside0.mk (HeadAt.below HY.out hb); clear hb; have cHG_0 := c3_0 HG.out; have cHG_1 := c3_1 HG.out; have cHG_2 := c3_2 HG.out; have cHY_n := cell_no HY.out))
    | ((refine gate_store (t := 28) (p := 4) rfl ?_); go_loud (refine store_all (P := Try.prog) (t := 28) (p := 4) (v := .tmp 20) ?hgd ?hN ?ho g4 (headC 0 (zeros 16) (zeros 8)) ?hx ?hy _ _ HY.out (hi_head HZ.out) (hold_head HZ.out HZ.out) (head_one _ _ _) w.heap.size w HB.out GE_HY.out ?_; (case hgd => rfl); (case hN => rfl); (case ho => rfl); (case hx => rfl); (case hy => rfl); intro w_ hx_ ho_ hb_; clear cHG_0 cHG_1 cHG_2 cHY_n; replace HG := Aside0.mk ((ho_ _ NE_HG_HY.out).trans HG.out); clear HB; have HB := Aside0.mk hb_; clear hb_; clear HY; have HY : Aside0 (HeadAt w_ g4 0 (zeros 16) (zeros 8)) := ⟨hx_⟩; clear hx_ ho_; have cHG_0 := c3_0 HG.out; have cHG_1 := c3_1 HG.out; have cHG_2 := c3_2 HG.out; have cHY_n := cell_no HY.out)))
  refine bodyPost_ret (ret_head_t rfl _ _ g4 rfl HY.out HZ.out) rfl ?_
  exact ⟨rfl, HB.out⟩
theorem diff_n {w : World} {A0 A1 : Option Addr} {l m : List Int} (n c n' c' : Nat) (x y : Int) (hl : l.length = n) (hm : m.length = n') (h0 : Kd.C (Kd.int .u8) w A0 l.length l) (hc : n ≤ c) (h1 : Kd.C (Kd.int .u8) w A1 m.length m) (hc' : n' ≤ c') (h : num_Diff.f 3000 l m = some (x, y)) :
    Calls Try.prog 35 #[.slice A0 n c, .slice A1 n' c'] w fun e w' => e = .returned (.tuple #[.int .i64 x, .int .i64 y]) ∧ Below w.heap.size w w' := by
  subst hl
  subst hm
  exact num_Diff.calls 3000 A0 c l A1 c' m x y w h0 hc h1 hc' h
set_option maxHeartbeats 16000000 in
set_option maxRecDepth 100000 in
theorem gget_good (G I N : Int) (A0 : Option Addr) (c0 : Nat) (l : List Int) (w : World) (hr0 : Kd.C (Kd.int .u8) w A0 l.length l) (hc0 : l.length ≤ c0) (hl : l.length = 256) (hib : Bits.isBytes l) (hR : Geo.R G I N = true) (hg : goodP G I N l = true) :
    Calls Try.prog 11 #[.agg #[.int .i64 G, .int .i64 I, .int .i64 N], .slice A0 l.length c0] w fun e w' => e = .returned (.tuple #[headV (noOf l) (gbl l) (gsl l), .int .i64 0]) ∧ Below w.heap.size w w' := by
  have HR : Aside0 (geo_Right.f 2 G I N = some true) := ⟨by rw [Geo.Right_eq 0, hR]⟩
  have HZ := Aside0.mk zeros_maps
  have HH := Aside0.mk (got_HM hl hib)
  have HM := Aside0.mk (got_HM hl hib).maps
  have HM1 : Aside0 (Maps (gbl l) (zeros 8)) := ⟨⟨gbl_length hl, rfl⟩⟩
  have HLB := Aside0.mk (gbl_length hl)
  have HLS := Aside0.mk (gsl_length hl)
  have HEL := Aside0.mk hl
  obtain ⟨no, hno⟩ : ∃ x, x = noOf l := ⟨_, rfl⟩
  have hrange := noOf_range hl hib
  have HNG : Aside0 (num_Get.f 20 ((l.take 6).drop 4) = some no) := ⟨by rw [hno]; exact Plain.num_cut 20 hib 4 6 (by omega) (by omega) (by omega)⟩
  have hwn : wrap64 no = no := by rw [hno]; unfold wrap64; omega
  have hwn2 : IntKind.i64.wrap no = no := by rw [IntWalk.i64_in _ (by rw [hno]; omega)]
  have hbn := built_no no
  have h256 : l.length ≤ c0 := by omega
  obtain ⟨A1, hs1, hc1, he1, hd1⟩ := sg_mid A0 c0 l 4 6 4 6 2 rfl rfl (by omega) (by omega) h256
  obtain ⟨A2, hs2, hc2, he2, hd2⟩ := sg_drop A0 c0 l 16 16 240 rfl (by omega) h256
  obtain ⟨A3, hs3, hc3, he3, hd3⟩ := sg_drop A0 c0 l 32 32 224 rfl (by omega) h256
  have HC0 := Aside0.mk hr0
  have HC00 : Aside0 (256 ≤ c0) := ⟨by omega⟩
  have HC1 := Aside0.mk (hc1 w hr0)
  have hq2 := hc2 w hr0
  have hq3 := hc3 w hr0
  rw [← he2] at hq2
  rw [← he3] at hq3
  have HC2 := Aside0.mk hq2
  have HC3 := Aside0.mk hq3
  have HE1 := Aside0.mk he1
  have HS1 := Aside0.mk hd1
  have HE2 := Aside0.mk he2
  have HE3 := Aside0.mk he3
  rw [hl] at hs1 hs2 hs3 ⊢
  unfold goodP at hg
  simp only [Bool.and_eq_true, decide_eq_true_eq] at hg
  obtain ⟨hg, hg2⟩ := hg
  rw [← hno] at hg hg2
  have HRP := Aside0.mk hg
  obtain ⟨pl, hpl⟩ : ∃ pl, pl = putL no (freeP G I N no (gbl l) (gsl l)).1 (freeP G I N no (gbl l) (gsl l)).2 (gbl l) (gsl l) := ⟨_, rfl⟩
  have HPL := Aside0.mk hpl.symm
  have hlp : pl.length = 256 := by rw [hpl]; exact putL_length (got_HM hl hib).maps
  have HEP := Aside0.mk hlp
  obtain ⟨x, y, hdf, hxy⟩ := Diff_any l pl (by omega) (by omega)
  have HDF := Aside0.mk hdf
  rw [← hpl] at hg2
  have hx0 : ¬ 0 ≤ x := fun q => hxy.mp q hg2
  have hx1 : decide (0 ≤ x) = false := decide_eq_false hx0
  have hx2 : (0 ≤ x) = False := eq_false hx0
  have HNO := Aside0.mk hno
  clear hno hr0 hc0 hl hib hR hg hg2 hrange h256 hc1 hc2 hc3 he1 he2 he3 hd1 hd2 hd3 hq2 hq3 hdf hxy hpl hlp hx0
  rw [← HNO.out]
  have HB := Aside0.mk (Below.refl w.heap.size w)
  go_enter Try.func11, Try.ntmps11
  go_wp2_with (first
    | ((with_reducible refine gate_dst (N := 2) rfl ?_); go_loud (refine box_event ?hg (N := 2) ?hd (cs := ([.int .i64 G, .int .i64 I, .int .i64 N]).toArray) (t := 23) ?hr ?_; (case hd => rfl); (case hg => rfl); (case hr => first | kernel_rfl | (go_simp; done) | (go_simp; rfl)); intro g2 hg w_ hx hb; have GE_HG := Aside0.mk (show w.heap.size ≤ g2 by have := HB.out.size; omega); clear hg; replace HB := Aside0.mk (below_step HB.out hb); clear hb; have HG : Aside0 (w_.heap[g2]? = some (.cells #[.int .i64 G, .int .i64 I, .int .i64 N] 23 (0, 0))) := ⟨hx⟩; clear hx; have cHG_0 := c3_0 HG.out; have cHG_1 := c3_1 HG.out; have cHG_2 := c3_2 HG.out))
    | ((with_reducible refine gate_dst (N := 4) rfl ?_); go_loud (refine box_event ?hg (N := 4) ?hd (cs := (headC 0 (zeros 16) (zeros 8)).toArray) (t := 28) ?hr ?_; (case hd => rfl); (case hg => rfl); (case hr => kernel_rfl); intro g4 hg w_ hx hb; have NE_HG_HY := Aside0.mk (new_ne HG.out hg); have GE_HY := Aside0.mk (show w.heap.size ≤ g4 by have := HB.out.size; omega); clear hg; clear cHG_0 cHG_1 cHG_2; replace HB := Aside0.mk (below_step HB.out hb); replace HG := Aside0.mk (blk_below HG.out hb); clear hb; have HY : Aside0 (HeadAt w_ g4 0 (zeros 16) (zeros 8)) := ⟨hx⟩; clear hx; have cHG_0 := c3_0 HG.out; have cHG_1 := c3_1 HG.out; have cHG_2 := c3_2 HG.out; have cHY_n := cell_no HY.out))
    | (go_at_call 33; go_loud ((with_reducible refine (geo_Right.calls 2 G I N true _ HR.out).mono ?_); rintro e w_ ⟨rfl, hb⟩; clear cHG_0 cHG_1 cHG_2 cHY_n; replace HB := Aside0.mk (below_step HB.out hb); replace HG := Aside0.mk (blk_below HG.out hb); replace HY := Aside0.mk (HeadAt.below HY.out hb); clear hb; have cHG_0 := c3_0 HG.out; have cHG_1 := c3_1 HG.out; have cHG_2 := c3_2 HG.out; have cHY_n := cell_no HY.out))
    | (go_at_call 34; go_loud ((with_reducible refine (get_n 20 A1 (c0 - 4) 2 _ no _ HE1.out (Kd.C_below HC1.out HB.out) HS1.out HNG.out).mono ?_); rintro e w_ ⟨rfl, hb⟩; clear cHG_0 cHG_1 cHG_2 cHY_n; replace HB := Aside0.mk (below_step HB.out hb); replace HG := Aside0.mk (blk_below HG.out hb); replace HY := Aside0.mk (HeadAt.below HY.out hb); clear hb; have cHG_0 := c3_0 HG.out; have cHG_1 := c3_1 HG.out; have cHG_2 := c3_2 HG.out; have cHY_n := cell_no HY.out))
    | ((with_reducible refine gate_dst (N := 6) rfl ?_); go_loud (refine box_event ?hg (N := 6) ?hd (cs := (headC 0 (zeros 16) (zeros 8)).toArray) (t := 28) ?hr ?_; (case hd => rfl); (case hg => rfl); (case hr => kernel_rfl); intro g6 hg w_ hx hb; have NE_HG_HX := Aside0.mk (new_ne HG.out hg); have NE_HY_HX := Aside0.mk (new_ne HY.out hg); have GE_HX := Aside0.mk (show w.heap.size ≤ g6 by have := HB.out.size; omega); clear hg; clear cHG_0 cHG_1 cHG_2 cHY_n; replace HB := Aside0.mk (below_step HB.out hb); replace HG := Aside0.mk (blk_below HG.out hb); replace HY := Aside0.mk (HeadAt.below HY.out hb); clear hb; have HX : Aside0 (HeadAt w_ g6 0 (zeros 16) (zeros 8)) := ⟨hx⟩; clear hx; have cHG_0 := c3_0 HG.out; have cHG_1 := c3_1 HG.out; have cHG_2 := c3_2 HG.out; have cHY_n := cell_no HY.out; have cHX_n := cell_no HX.out))
    | ((refine gate_store (t := 28) (p := 6) rfl ?_); go_loud (refine store_all (P := Try.prog) (t := 28) (p := 6) (v := .tmp 25) ?hgd ?hN ?ho g6 (headC no (zeros 16) (zeros 8)) ?hx ?hy _ _ HX.out (hi_head HZ.out) (hold_head HZ.out HZ.out) (head_one _ _ _) w.heap.size w HB.out GE_HX.out ?_; (case hgd => rfl); (case hN => rfl); (case ho => rfl); (case hx => rfl); (case hy => rfl); intro w_ hx_ ho_ hb_; clear cHG_0 cHG_1 cHG_2 cHY_n cHX_n; replace HG := Aside0.mk ((ho_ _ NE_HG_HX.out).trans HG.out); replace HY := Aside0.mk (HeadAt.other HY.out ho_ NE_HY_HX.out); clear HB; have HB := Aside0.mk hb_; clear hb_; clear HX; have HX : Aside0 (HeadAt w_ g6 no (zeros 16) (zeros 8)) := ⟨hx_⟩; clear hx_ ho_; have cHG_0 := c3_0 HG.out; have cHG_1 := c3_1 HG.out; have cHG_2 := c3_2 HG.out; have cHY_n := cell_no HY.out; have cHX_n := cell_no HX.out)))
  refine wp_region_still_tail 4 (by kernel_rfl) (by kernel_rfl) ?_
  change wpStill _ _ (World.drew w_) (fun a' => wpList _ _ _ _ a' (World.drew w_)) _ _
  clear cHG_0 cHG_1 cHG_2 cHY_n cHX_n
  replace HB := Aside0.mk (below_drew HB.out)
  replace HG := Aside0.mk (blk_drew HG.out)
  replace HY := Aside0.mk (HeadAt.drew HY.out)
  replace HX := Aside0.mk (HeadAt.drew HX.out)
  generalize hv_ : World.drew w_ = v1 at HB HG HY HX ⊢
  clear hv_
  have cHG_0 := c3_0 HG.out
  have cHG_1 := c3_1 HG.out
  have cHG_2 := c3_2 HG.out
  have cHY_n := cell_no HY.out
  have cHX_n := cell_no HX.out
  simp only [List.take_succ_cons, List.take_zero, List.drop_succ_cons, List.drop_zero]
  iterate 4 still_step
  refine wpStill_nil ?_
  go_wp2_with (first
      | ((with_reducible refine gate_builtin (b := .copy) (xs := #[.tmp 27, .tmp 29]) rfl ?_); go_loud (refine copy_ev ?hgd (.tmp 27) (.tmp 29) 24 24 ?ho Try.underlying24 g6 1 16 16 A2 240 (c0 - 16) ?hd ?hs _ _ HX.out (l.drop 16) HE2.out (Kd.C_below HC2.out HB.out) 16 ?hm (by decide) (by rw [headC_length HZ.out]; decide) ?_; (case hgd => rfl); (case ho => rfl); (case hd => rfl); (case hs => rfl); (case hm => rfl); intro w_ hx ho_ hg; rw [show (l.drop 16).take 16 = gbl l from rfl, splice_bl (by rfl) HLB.out] at hx; clear cHG_0 cHG_1 cHG_2 cHY_n cHX_n; replace HG := Aside0.mk (grown_blk HG.out hg NE_HG_HX.out); replace HY := Aside0.mk (HeadAt.grown HY.out hg NE_HY_HX.out); replace HB := Aside0.mk (grown_below HB.out hg GE_HX.out); clear HX; have HX : Aside0 (HeadAt w_ g6 no (gbl l) (zeros 8)) := ⟨hx⟩; clear hx ho_ hg; have cHG_0 := c3_0 HG.out; have cHG_1 := c3_1 HG.out; have cHG_2 := c3_2 HG.out; have cHY_n := cell_no HY.out; have cHX_n := cell_no HX.out)))
  refine wp_region_still_tail 4 (by kernel_rfl) (by kernel_rfl) ?_
  change wpStill _ _ (World.drew w_) (fun a' => wpList _ _ _ _ a' (World.drew w_)) _ _
  clear cHG_0 cHG_1 cHG_2 cHY_n cHX_n
  replace HB := Aside0.mk (below_drew HB.out)
  replace HG := Aside0.mk (blk_drew HG.out)
  replace HY := Aside0.mk (HeadAt.drew HY.out)
  replace HX := Aside0.mk (HeadAt.drew HX.out)
  generalize hv_ : World.drew w_ = v2 at HB HG HY HX ⊢
  clear hv_
  have cHG_0 := c3_0 HG.out
  have cHG_1 := c3_1 HG.out
  have cHG_2 := c3_2 HG.out
  have cHY_n := cell_no HY.out
  have cHX_n := cell_no HX.out
  simp only [List.take_succ_cons, List.take_zero, List.drop_succ_cons, List.drop_zero]
  iterate 4 still_step
  refine wpStill_nil ?_
  go_wp2_with (first
      | ((with_reducible refine gate_builtin (b := .copy) (xs := #[.tmp 32, .tmp 34]) rfl ?_); go_loud (refine copy_ev ?hgd (.tmp 32) (.tmp 34) 24 24 ?ho Try.underlying24 g6 17 8 8 A3 224 (c0 - 32) ?hd ?hs _ _ HX.out (l.drop 32) HE3.out (Kd.C_below HC3.out HB.out) 8 ?hm (by decide) (by rw [headC_length HM1.out]; decide) ?_; (case hgd => rfl); (case ho => rfl); (case hd => rfl); (case hs => rfl); (case hm => rfl); intro w_ hx ho_ hg; rw [show (l.drop 32).take 8 = gsl l from rfl, splice_sl HLB.out (by rfl) HLS.out] at hx; clear cHG_0 cHG_1 cHG_2 cHY_n cHX_n; replace HG := Aside0.mk (grown_blk HG.out hg NE_HG_HX.out); replace HY := Aside0.mk (HeadAt.grown HY.out hg NE_HY_HX.out); replace HB := Aside0.mk (grown_below HB.out hg GE_HX.out); clear HX; have HX : Aside0 (HeadAt w_ g6 no (gbl l) (gsl l)) := ⟨hx⟩; clear hx ho_ hg; have cHG_0 := c3_0 HG.out; have cHG_1 := c3_1 HG.out; have cHG_2 := c3_2 HG.out; have cHY_n := cell_no HY.out; have cHX_n := cell_no HX.out))
      | ((with_reducible refine gate_dst (N := 38) rfl ?_); go_loud (refine wl_head ?hw (.tmp 6) ?ho ?hx HX.out HM.out ?_; (case hw => first | rfl | (go_simp; done)); (case ho => rfl); (case hx => rfl)))
      | (go_at_call 8; go_loud ((with_reducible refine (gput_yes G I N no (gbl l) (gsl l) _ HH.out HRP.out).mono ?_); rintro e w_ ⟨gp, rfl, hx, hgp, hb⟩; clear cHG_0 cHG_1 cHG_2 cHY_n cHX_n; replace HB := Aside0.mk (below_step HB.out hb); replace HG := Aside0.mk (blk_below HG.out hb); replace HY := Aside0.mk (HeadAt.below HY.out hb); replace HX := Aside0.mk (HeadAt.below HX.out hb); clear hb hgp; rw [HPL.out] at hx; have HP := Aside0.mk hx; clear hx; have cHG_0 := c3_0 HG.out; have cHG_1 := c3_1 HG.out; have cHG_2 := c3_2 HG.out; have cHY_n := cell_no HY.out; have cHX_n := cell_no HX.out))
      | (go_at_call 35; go_loud ((with_reducible refine (diff_n 256 c0 256 256 x y HEL.out HEP.out (Kd.C_below HC0.out HB.out) HC00.out (C_of_blk HP.out (by rw [HEP.out]; decide)) (Nat.le_refl _) HDF.out).mono ?_); rintro e w_ ⟨rfl, hb⟩; clear HP; clear cHG_0 cHG_1 cHG_2 cHY_n cHX_n; replace HB := Aside0.mk (below_step HB.out hb); replace HG := Aside0.mk (blk_below HG.out hb); replace HY := Aside0.mk (HeadAt.below HY.out hb); replace HX := Aside0.mk (HeadAt.below HX.out hb); clear hb; have cHG_0 := c3_0 HG.out; have cHG_1 := c3_1 HG.out; have cHG_2 := c3_2 HG.out; have cHY_n := cell_no HY.out; have cHX_n := cell_no HX.out))
      | ((with_reducible refine gate_dst (N := 55) rfl ?_); go_loud (refine wl_head ?hw (.tmp 6) ?ho ?hx HX.out HM.out ?_; (case hw => first | rfl | (go_simp; done)); (case ho => rfl); (case hx => rfl)))
      | ((refine gate_store (t := 28) (p := 4) rfl ?_); go_loud (refine store_all (P := Try.prog) (t := 28) (p := 4) (v := .tmp 55) ?hgd ?hN ?ho g4 (headC no (gbl l) (gsl l)) ?hx ?hy _ _ HY.out (hi_head HM.out) (hold_head HZ.out HM.out) (head_one _ _ _) w.heap.size w HB.out GE_HY.out ?_; (case hgd => rfl); (case hN => rfl); (case ho => rfl); (case hx => rfl); (case hy => rfl); intro w_ hx_ ho_ hb_; clear cHG_0 cHG_1 cHG_2 cHY_n cHX_n; replace HG := Aside0.mk ((ho_ _ NE_HG_HY.out).trans HG.out); replace HX := Aside0.mk (HeadAt.other HX.out ho_ (Ne.symm NE_HY_HX.out)); clear HB; have HB := Aside0.mk hb_; clear hb_; clear HY; have HY : Aside0 (HeadAt w_ g4 no (gbl l) (gsl l)) := ⟨hx_⟩; clear hx_ ho_; have cHG_0 := c3_0 HG.out; have cHG_1 := c3_1 HG.out; have cHG_2 := c3_2 HG.out; have cHY_n := cell_no HY.out; have cHX_n := cell_no HX.out)))
  refine bodyPost_ret (ret_head_t rfl _ _ g4 rfl HY.out HM.out) rfl ?_
  exact ⟨rfl, HB.out⟩
set_option maxHeartbeats 16000000 in
set_option maxRecDepth 100000 in
theorem gget_bad1 (G I N : Int) (A0 : Option Addr) (c0 : Nat) (l : List Int) (w : World) (hr0 : Kd.C (Kd.int .u8) w A0 l.length l) (hc0 : l.length ≤ c0) (hl : l.length = 256) (hib : Bits.isBytes l) (hR : Geo.R G I N = true) (hg : rightP G I N (noOf l) (gbl l) (gsl l) = false) :
    Calls Try.prog 11 #[.agg #[.int .i64 G, .int .i64 I, .int .i64 N], .slice A0 l.length c0] w fun e w' => e = .returned (.tuple #[headV 0 (zeros 16) (zeros 8), .int .i64 8]) ∧ Below w.heap.size w w' := by
  have HR : Aside0 (geo_Right.f 2 G I N = some true) := ⟨by rw [Geo.Right_eq 0, hR]⟩
  have HZ := Aside0.mk zeros_maps
  have HH := Aside0.mk (got_HM hl hib)
  have HM := Aside0.mk (got_HM hl hib).maps
  have HM1 : Aside0 (Maps (gbl l) (zeros 8)) := ⟨⟨gbl_length hl, rfl⟩⟩
  have HLB := Aside0.mk (gbl_length hl)
  have HLS := Aside0.mk (gsl_length hl)
  have HEL := Aside0.mk hl
  obtain ⟨no, hno⟩ : ∃ x, x = noOf l := ⟨_, rfl⟩
  have hrange := noOf_range hl hib
  have HNG : Aside0 (num_Get.f 20 ((l.take 6).drop 4) = some no) := ⟨by rw [hno]; exact Plain.num_cut 20 hib 4 6 (by omega) (by omega) (by omega)⟩
  have hwn : wrap64 no = no := by rw [hno]; unfold wrap64; omega
  have hwn2 : IntKind.i64.wrap no = no := by rw [IntWalk.i64_in _ (by rw [hno]; omega)]
  have hbn := built_no no
  have h256 : l.length ≤ c0 := by omega
  obtain ⟨A1, hs1, hc1, he1, hd1⟩ := sg_mid A0 c0 l 4 6 4 6 2 rfl rfl (by omega) (by omega) h256
  obtain ⟨A2, hs2, hc2, he2, hd2⟩ := sg_drop A0 c0 l 16 16 240 rfl (by omega) h256
  obtain ⟨A3, hs3, hc3, he3, hd3⟩ := sg_drop A0 c0 l 32 32 224 rfl (by omega) h256
  have HC0 := Aside0.mk hr0
  have HC00 : Aside0 (256 ≤ c0) := ⟨by omega⟩
  have HC1 := Aside0.mk (hc1 w hr0)
  have hq2 := hc2 w hr0
  have hq3 := hc3 w hr0
  rw [← he2] at hq2
  rw [← he3] at hq3
  have HC2 := Aside0.mk hq2
  have HC3 := Aside0.mk hq3
  have HE1 := Aside0.mk he1
  have HS1 := Aside0.mk hd1
  have HE2 := Aside0.mk he2
  have HE3 := Aside0.mk he3
  rw [hl] at hs1 hs2 hs3 ⊢
  rw [← hno] at hg
  have HRP := Aside0.mk hg
  obtain ⟨x, y, hdf, _⟩ := Diff_any l [] (by omega) (by decide)
  have HDF := Aside0.mk hdf
  clear hno hr0 hc0 hl hib hR hg hrange h256 hc1 hc2 hc3 he1 he2 he3 hd1 hd2 hd3 hq2 hq3 hdf
  have HB := Aside0.mk (Below.refl w.heap.size w)
  go_enter Try.func11, Try.ntmps11
  go_wp2_with (first
    | ((with_reducible refine gate_dst (N := 2) rfl ?_); go_loud (refine box_event ?hg (N := 2) ?hd (cs := ([.int .i64 G, .int .i64 I, .int .i64 N]).toArray) (t := 23) ?hr ?_; (case hd => rfl); (case hg => rfl); (case hr => first | kernel_rfl | (go_simp; done) | (go_simp; rfl)); intro g2 hg w_ hx hb; have GE_HG := Aside0.mk (show w.heap.size ≤ g2 by have := HB.out.size; omega); clear hg; replace HB := Aside0.mk (below_step HB.out hb); clear hb; have HG : Aside0 (w_.heap[g2]? = some (.cells #[.int .i64 G, .int .i64 I, .int .i64 N] 23 (0, 0))) := ⟨hx⟩; clear hx; have cHG_0 := c3_0 HG.out; have cHG_1 := c3_1 HG.out; have cHG_2 := c3_2 HG.out))
    | ((with_reducible refine gate_dst (N := 4) rfl ?_); go_loud (refine box_event ?hg (N := 4) ?hd (cs := (headC 0 (zeros 16) (zeros 8)).toArray) (t := 28) ?hr ?_; (case hd => rfl); (case hg => rfl); (case hr => kernel_rfl); intro g4 hg w_ hx hb; have NE_HG_HY := Aside0.mk (new_ne HG.out hg); have GE_HY := Aside0.mk (show w.heap.size ≤ g4 by have := HB.out.size; omega); clear hg; clear cHG_0 cHG_1 cHG_2; replace HB := Aside0.mk (below_step HB.out hb); replace HG := Aside0.mk (blk_below HG.out hb); clear hb; have HY : Aside0 (HeadAt w_ g4 0 (zeros 16) (zeros 8)) := ⟨hx⟩; clear hx; have cHG_0 := c3_0 HG.out; have cHG_1 := c3_1 HG.out; have cHG_2 := c3_2 HG.out; have cHY_n := cell_no HY.out))
    | (go_at_call 33; go_loud ((with_reducible refine (geo_Right.calls 2 G I N true _ HR.out).mono ?_); rintro e w_ ⟨rfl, hb⟩; clear cHG_0 cHG_1 cHG_2 cHY_n; replace HB := Aside0.mk (below_step HB.out hb); replace HG := Aside0.mk (blk_below HG.out hb); replace HY := Aside0.mk (HeadAt.below HY.out hb); clear hb; have cHG_0 := c3_0 HG.out; have cHG_1 := c3_1 HG.out; have cHG_2 := c3_2 HG.out; have cHY_n := cell_no HY.out))
    | (go_at_call 34; go_loud ((with_reducible refine (get_n 20 A1 (c0 - 4) 2 _ no _ HE1.out (Kd.C_below HC1.out HB.out) HS1.out HNG.out).mono ?_); rintro e w_ ⟨rfl, hb⟩; clear cHG_0 cHG_1 cHG_2 cHY_n; replace HB := Aside0.mk (below_step HB.out hb); replace HG := Aside0.mk (blk_below HG.out hb); replace HY := Aside0.mk (HeadAt.below HY.out hb); clear hb; have cHG_0 := c3_0 HG.out; have cHG_1 := c3_1 HG.out; have cHG_2 := c3_2 HG.out; have cHY_n := cell_no HY.out))
    | ((with_reducible refine gate_dst (N := 6) rfl ?_); go_loud (refine box_event ?hg (N := 6) ?hd (cs := (headC 0 (zeros 16) (zeros 8)).toArray) (t := 28) ?hr ?_; (case hd => rfl); (case hg => rfl); (case hr => kernel_rfl); intro g6 hg w_ hx hb; have NE_HG_HX := Aside0.mk (new_ne HG.out hg); have NE_HY_HX := Aside0.mk (new_ne HY.out hg); have GE_HX := Aside0.mk (show w.heap.size ≤ g6 by have := HB.out.size; omega); clear hg; clear cHG_0 cHG_1 cHG_2 cHY_n; replace HB := Aside0.mk (below_step HB.out hb); replace HG := Aside0.mk (blk_below HG.out hb); replace HY := Aside0.mk (HeadAt.below HY.out hb); clear hb; have HX : Aside0 (HeadAt w_ g6 0 (zeros 16) (zeros 8)) := ⟨hx⟩; clear hx; have cHG_0 := c3_0 HG.out; have cHG_1 := c3_1 HG.out; have cHG_2 := c3_2 HG.out; have cHY_n := cell_no HY.out; have cHX_n := cell_no HX.out))
    | ((refine gate_store (t := 28) (p := 6) rfl ?_); go_loud (refine store_all (P := Try.prog) (t := 28) (p := 6) (v := .tmp 25) ?hgd ?hN ?ho g6 (headC no (zeros 16) (zeros 8)) ?hx ?hy _ _ HX.out (hi_head HZ.out) (hold_head HZ.out HZ.out) (head_one _ _ _) w.heap.size w HB.out GE_HX.out ?_; (case hgd => rfl); (case hN => rfl); (case ho => rfl); (case hx => rfl); (case hy => rfl); intro w_ hx_ ho_ hb_; clear cHG_0 cHG_1 cHG_2 cHY_n cHX_n; replace HG := Aside0.mk ((ho_ _ NE_HG_HX.out).trans HG.out); replace HY := Aside0.mk (HeadAt.other HY.out ho_ NE_HY_HX.out); clear HB; have HB := Aside0.mk hb_; clear hb_; clear HX; have HX : Aside0 (HeadAt w_ g6 no (zeros 16) (zeros 8)) := ⟨hx_⟩; clear hx_ ho_; have cHG_0 := c3_0 HG.out; have cHG_1 := c3_1 HG.out; have cHG_2 := c3_2 HG.out; have cHY_n := cell_no HY.out; have cHX_n := cell_no HX.out)))
  refine wp_region_still_tail 4 (by kernel_rfl) (by kernel_rfl) ?_
  change wpStill _ _ (World.drew w_) (fun a' => wpList _ _ _ _ a' (World.drew w_)) _ _
  clear cHG_0 cHG_1 cHG_2 cHY_n cHX_n
  replace HB := Aside0.mk (below_drew HB.out)
  replace HG := Aside0.mk (blk_drew HG.out)
  replace HY := Aside0.mk (HeadAt.drew HY.out)
  replace HX := Aside0.mk (HeadAt.drew HX.out)
  generalize hv_ : World.drew w_ = v1 at HB HG HY HX ⊢
  clear hv_
  have cHG_0 := c3_0 HG.out
  have cHG_1 := c3_1 HG.out
  have cHG_2 := c3_2 HG.out
  have cHY_n := cell_no HY.out
  have cHX_n := cell_no HX.out
  simp only [List.take_succ_cons, List.take_zero, List.drop_succ_cons, List.drop_zero]
  iterate 4 still_step
  refine wpStill_nil ?_
  go_wp2_with (first
      | ((with_reducible refine gate_builtin (b := .copy) (xs := #[.tmp 27, .tmp 29]) rfl ?_); go_loud (refine copy_ev ?hgd (.tmp 27) (.tmp 29) 24 24 ?ho Try.underlying24 g6 1 16 16 A2 240 (c0 - 16) ?hd ?hs _ _ HX.out (l.drop 16) HE2.out (Kd.C_below HC2.out HB.out) 16 ?hm (by decide) (by rw [headC_length HZ.out]; decide) ?_; (case hgd => rfl); (case ho => rfl); (case hd => rfl); (case hs => rfl); (case hm => rfl); intro w_ hx ho_ hg; rw [show (l.drop 16).take 16 = gbl l from rfl, splice_bl (by rfl) HLB.out] at hx; clear cHG_0 cHG_1 cHG_2 cHY_n cHX_n; replace HG := Aside0.mk (grown_blk HG.out hg NE_HG_HX.out); replace HY := Aside0.mk (HeadAt.grown HY.out hg NE_HY_HX.out); replace HB := Aside0.mk (grown_below HB.out hg GE_HX.out); clear HX; have HX : Aside0 (HeadAt w_ g6 no (gbl l) (zeros 8)) := ⟨hx⟩; clear hx ho_ hg; have cHG_0 := c3_0 HG.out; have cHG_1 := c3_1 HG.out; have cHG_2 := c3_2 HG.out; have cHY_n := cell_no HY.out; have cHX_n := cell_no HX.out)))
  refine wp_region_still_tail 4 (by kernel_rfl) (by kernel_rfl) ?_
  change wpStill _ _ (World.drew w_) (fun a' => wpList _ _ _ _ a' (World.drew w_)) _ _
  clear cHG_0 cHG_1 cHG_2 cHY_n cHX_n
  replace HB := Aside0.mk (below_drew HB.out)
  replace HG := Aside0.mk (blk_drew HG.out)
  replace HY := Aside0.mk (HeadAt.drew HY.out)
  replace HX := Aside0.mk (HeadAt.drew HX.out)
  generalize hv_ : World.drew w_ = v2 at HB HG HY HX ⊢
  clear hv_
  have cHG_0 := c3_0 HG.out
  have cHG_1 := c3_1 HG.out
  have cHG_2 := c3_2 HG.out
  have cHY_n := cell_no HY.out
  have cHX_n := cell_no HX.out
  simp only [List.take_succ_cons, List.take_zero, List.drop_succ_cons, List.drop_zero]
  iterate 4 still_step
  refine wpStill_nil ?_
  go_wp2_with (first
      | ((with_reducible refine gate_builtin (b := .copy) (xs := #[.tmp 32, .tmp 34]) rfl ?_); go_loud (refine copy_ev ?hgd (.tmp 32) (.tmp 34) 24 24 ?ho Try.underlying24 g6 17 8 8 A3 224 (c0 - 32) ?hd ?hs _ _ HX.out (l.drop 32) HE3.out (Kd.C_below HC3.out HB.out) 8 ?hm (by decide) (by rw [headC_length HM1.out]; decide) ?_; (case hgd => rfl); (case ho => rfl); (case hd => rfl); (case hs => rfl); (case hm => rfl); intro w_ hx ho_ hg; rw [show (l.drop 32).take 8 = gsl l from rfl, splice_sl HLB.out (by rfl) HLS.out] at hx; clear cHG_0 cHG_1 cHG_2 cHY_n cHX_n; replace HG := Aside0.mk (grown_blk HG.out hg NE_HG_HX.out); replace HY := Aside0.mk (HeadAt.grown HY.out hg NE_HY_HX.out); replace HB := Aside0.mk (grown_below HB.out hg GE_HX.out); clear HX; have HX : Aside0 (HeadAt w_ g6 no (gbl l) (gsl l)) := ⟨hx⟩; clear hx ho_ hg; have cHG_0 := c3_0 HG.out; have cHG_1 := c3_1 HG.out; have cHG_2 := c3_2 HG.out; have cHY_n := cell_no HY.out; have cHX_n := cell_no HX.out))
      | ((with_reducible refine gate_dst (N := 38) rfl ?_); go_loud (refine wl_head ?hw (.tmp 6) ?ho ?hx HX.out HM.out ?_; (case hw => first | rfl | (go_simp; done)); (case ho => rfl); (case hx => rfl)))
      | (go_at_call 8; go_loud ((with_reducible refine (gput_no G I N no (gbl l) (gsl l) _ HH.out HRP.out).mono ?_); rintro e w_ ⟨rfl, hb⟩; clear cHG_0 cHG_1 cHG_2 cHY_n cHX_n; replace HB := Aside0.mk (below_step HB.out hb); replace HG := Aside0.mk (blk_below HG.out hb); replace HY := Aside0.mk (HeadAt.below HY.out hb); replace HX := Aside0.mk (HeadAt.below HX.out hb); clear hb; have cHG_0 := c3_0 HG.out; have cHG_1 := c3_1 HG.out; have cHG_2 := c3_2 HG.out; have cHY_n := cell_no HY.out; have cHX_n := cell_no HX.out))
      | (go_at_call 35; go_loud ((with_reducible refine (diff_n 256 c0 0 0 x y HEL.out rfl (Kd.C_below HC0.out HB.out) HC00.out (Kd.C_nil _ _) (Nat.le_refl _) HDF.out).mono ?_); rintro e w_ ⟨rfl, hb⟩; clear cHG_0 cHG_1 cHG_2 cHY_n cHX_n; replace HB := Aside0.mk (below_step HB.out hb); replace HG := Aside0.mk (blk_below HG.out hb); replace HY := Aside0.mk (HeadAt.below HY.out hb); replace HX := Aside0.mk (HeadAt.below HX.out hb); clear hb; have cHG_0 := c3_0 HG.out; have cHG_1 := c3_1 HG.out; have cHG_2 := c3_2 HG.out; have cHY_n := cell_no HY.out; have cHX_n := cell_no HX.out))
      | ((refine gate_store (t := 28) (p := 4) rfl ?_); go_loud (refine store_all (P := Try.prog) (t := 28) (p := 4) (v := .tmp 54) ?hgd ?hN ?ho g4 (headC 0 (zeros 16) (zeros 8)) ?hx ?hy _ _ HY.out (hi_head HZ.out) (hold_head HZ.out HZ.out) (head_one _ _ _) w.heap.size w HB.out GE_HY.out ?_; (case hgd => rfl); (case hN => rfl); (case ho => rfl); (case hx => rfl); (case hy => rfl); intro w_ hx_ ho_ hb_; clear cHG_0 cHG_1 cHG_2 cHY_n cHX_n; replace HG := Aside0.mk ((ho_ _ NE_HG_HY.out).trans HG.out); replace HX := Aside0.mk (HeadAt.other HX.out ho_ (Ne.symm NE_HY_HX.out)); clear HB; have HB := Aside0.mk hb_; clear hb_; clear HY; have HY : Aside0 (HeadAt w_ g4 0 (zeros 16) (zeros 8)) := ⟨hx_⟩; clear hx_ ho_; have cHG_0 := c3_0 HG.out; have cHG_1 := c3_1 HG.out; have cHG_2 := c3_2 HG.out; have cHY_n := cell_no HY.out; have cHX_n := cell_no HX.out)))
  refine bodyPost_ret (ret_head_t rfl _ _ g4 rfl HY.out HZ.out) rfl ?_
  exact ⟨rfl, HB.out⟩
set_option maxHeartbeats 16000000 in
set_option maxRecDepth 100000 in
theorem gget_bad2 (G I N : Int) (A0 : Option Addr) (c0 : Nat) (l : List Int) (w : World) (hr0 : Kd.C (Kd.int .u8) w A0 l.length l) (hc0 : l.length ≤ c0) (hl : l.length = 256) (hib : Bits.isBytes l) (hR : Geo.R G I N = true) (hg : rightP G I N (noOf l) (gbl l) (gsl l) = true) (hg2 : l ≠ putL (noOf l) (freeP G I N (noOf l) (gbl l) (gsl l)).1 (freeP G I N (noOf l) (gbl l) (gsl l)).2 (gbl l) (gsl l)) :
    Calls Try.prog 11 #[.agg #[.int .i64 G, .int .i64 I, .int .i64 N], .slice A0 l.length c0] w fun e w' => e = .returned (.tuple #[headV 0 (zeros 16) (zeros 8), .int .i64 8]) ∧ Below w.heap.size w w' := by
  have HR : Aside0 (geo_Right.f 2 G I N = some true) := ⟨by rw [Geo.Right_eq 0, hR]⟩
  have HZ := Aside0.mk zeros_maps
  have HH := Aside0.mk (got_HM hl hib)
  have HM := Aside0.mk (got_HM hl hib).maps
  have HM1 : Aside0 (Maps (gbl l) (zeros 8)) := ⟨⟨gbl_length hl, rfl⟩⟩
  have HLB := Aside0.mk (gbl_length hl)
  have HLS := Aside0.mk (gsl_length hl)
  have HEL := Aside0.mk hl
  obtain ⟨no, hno⟩ : ∃ x, x = noOf l := ⟨_, rfl⟩
  have hrange := noOf_range hl hib
  have HNG : Aside0 (num_Get.f 20 ((l.take 6).drop 4) = some no) := ⟨by rw [hno]; exact Plain.num_cut 20 hib 4 6 (by omega) (by omega) (by omega)⟩
  have hwn : wrap64 no = no := by rw [hno]; unfold wrap64; omega
  have hwn2 : IntKind.i64.wrap no = no := by rw [IntWalk.i64_in _ (by rw [hno]; omega)]
  have hbn := built_no no
  have h256 : l.length ≤ c0 := by omega
  obtain ⟨A1, hs1, hc1, he1, hd1⟩ := sg_mid A0 c0 l 4 6 4 6 2 rfl rfl (by omega) (by omega) h256
  obtain ⟨A2, hs2, hc2, he2, hd2⟩ := sg_drop A0 c0 l 16 16 240 rfl (by omega) h256
  obtain ⟨A3, hs3, hc3, he3, hd3⟩ := sg_drop A0 c0 l 32 32 224 rfl (by omega) h256
  have HC0 := Aside0.mk hr0
  have HC00 : Aside0 (256 ≤ c0) := ⟨by omega⟩
  have HC1 := Aside0.mk (hc1 w hr0)
  have hq2 := hc2 w hr0
  have hq3 := hc3 w hr0
  rw [← he2] at hq2
  rw [← he3] at hq3
  have HC2 := Aside0.mk hq2
  have HC3 := Aside0.mk hq3
  have HE1 := Aside0.mk he1
  have HS1 := Aside0.mk hd1
  have HE2 := Aside0.mk he2
  have HE3 := Aside0.mk he3
  rw [hl] at hs1 hs2 hs3 ⊢
  rw [← hno] at hg hg2
  have HRP := Aside0.mk hg
  obtain ⟨pl, hpl⟩ : ∃ pl, pl = putL no (freeP G I N no (gbl l) (gsl l)).1 (freeP G I N no (gbl l) (gsl l)).2 (gbl l) (gsl l) := ⟨_, rfl⟩
  have HPL := Aside0.mk hpl.symm
  have hlp : pl.length = 256 := by rw [hpl]; exact putL_length (got_HM hl hib).maps
  have HEP := Aside0.mk hlp
  obtain ⟨x, y, hdf, hxy⟩ := Diff_any l pl (by omega) (by omega)
  have HDF := Aside0.mk hdf
  rw [← hpl] at hg2
  have hx0 : 0 ≤ x := hxy.mpr hg2
  have hx1 : decide (0 ≤ x) = true := decide_eq_true hx0
  have hx2 : (0 ≤ x) = True := eq_true hx0
  clear hno hr0 hc0 hl hib hR hg hg2 hrange h256 hc1 hc2 hc3 he1 he2 he3 hd1 hd2 hd3 hq2 hq3 hdf hxy hpl hlp hx0
  have HB := Aside0.mk (Below.refl w.heap.size w)
  go_enter Try.func11, Try.ntmps11
  go_wp2_with (first
    | ((with_reducible refine gate_dst (N := 2) rfl ?_); go_loud (refine box_event ?hg (N := 2) ?hd (cs := ([.int .i64 G, .int .i64 I, .int .i64 N]).toArray) (t := 23) ?hr ?_; (case hd => rfl); (case hg => rfl); (case hr => first | kernel_rfl | (go_simp; done) | (go_simp; rfl)); intro g2 hg w_ hx hb; have GE_HG := Aside0.mk (show w.heap.size ≤ g2 by have := HB.out.size; omega); clear hg; replace HB := Aside0.mk (below_step HB.out hb); clear hb; have HG : Aside0 (w_.heap[g2]? = some (.cells #[.int .i64 G, .int .i64 I, .int .i64 N] 23 (0, 0))) := ⟨hx⟩; clear hx; have cHG_0 := c3_0 HG.out; have cHG_1 := c3_1 HG.out; have cHG_2 := c3_2 HG.out))
    | ((with_reducible refine gate_dst (N := 4) rfl ?_); go_loud (refine box_event ?hg (N := 4) ?hd (cs := (headC 0 (zeros 16) (zeros 8)).toArray) (t := 28) ?hr ?_; (case hd => rfl); (case hg => rfl); (case hr => kernel_rfl); intro g4 hg w_ hx hb; have NE_HG_HY := Aside0.mk (new_ne HG.out hg); have GE_HY := Aside0.mk (show w.heap.size ≤ g4 by have := HB.out.size; omega); clear hg; clear cHG_0 cHG_1 cHG_2; replace HB := Aside0.mk (below_step HB.out hb); replace HG := Aside0.mk (blk_below HG.out hb); clear hb; have HY : Aside0 (HeadAt w_ g4 0 (zeros 16) (zeros 8)) := ⟨hx⟩; clear hx; have cHG_0 := c3_0 HG.out; have cHG_1 := c3_1 HG.out; have cHG_2 := c3_2 HG.out; have cHY_n := cell_no HY.out))
    | (go_at_call 33; go_loud ((with_reducible refine (geo_Right.calls 2 G I N true _ HR.out).mono ?_); rintro e w_ ⟨rfl, hb⟩; clear cHG_0 cHG_1 cHG_2 cHY_n; replace HB := Aside0.mk (below_step HB.out hb); replace HG := Aside0.mk (blk_below HG.out hb); replace HY := Aside0.mk (HeadAt.below HY.out hb); clear hb; have cHG_0 := c3_0 HG.out; have cHG_1 := c3_1 HG.out; have cHG_2 := c3_2 HG.out; have cHY_n := cell_no HY.out))
    | (go_at_call 34; go_loud ((with_reducible refine (get_n 20 A1 (c0 - 4) 2 _ no _ HE1.out (Kd.C_below HC1.out HB.out) HS1.out HNG.out).mono ?_); rintro e w_ ⟨rfl, hb⟩; clear cHG_0 cHG_1 cHG_2 cHY_n; replace HB := Aside0.mk (below_step HB.out hb); replace HG := Aside0.mk (blk_below HG.out hb); replace HY := Aside0.mk (HeadAt.below HY.out hb); clear hb; have cHG_0 := c3_0 HG.out; have cHG_1 := c3_1 HG.out; have cHG_2 := c3_2 HG.out; have cHY_n := cell_no HY.out))
    | ((with_reducible refine gate_dst (N := 6) rfl ?_); go_loud (refine box_event ?hg (N := 6) ?hd (cs := (headC 0 (zeros 16) (zeros 8)).toArray) (t := 28) ?hr ?_; (case hd => rfl); (case hg => rfl); (case hr => kernel_rfl); intro g6 hg w_ hx hb; have NE_HG_HX := Aside0.mk (new_ne HG.out hg); have NE_HY_HX := Aside0.mk (new_ne HY.out hg); have GE_HX := Aside0.mk (show w.heap.size ≤ g6 by have := HB.out.size; omega); clear hg; clear cHG_0 cHG_1 cHG_2 cHY_n; replace HB := Aside0.mk (below_step HB.out hb); replace HG := Aside0.mk (blk_below HG.out hb); replace HY := Aside0.mk (HeadAt.below HY.out hb); clear hb; have HX : Aside0 (HeadAt w_ g6 0 (zeros 16) (zeros 8)) := ⟨hx⟩; clear hx; have cHG_0 := c3_0 HG.out; have cHG_1 := c3_1 HG.out; have cHG_2 := c3_2 HG.out; have cHY_n := cell_no HY.out; have cHX_n := cell_no HX.out))
    | ((refine gate_store (t := 28) (p := 6) rfl ?_); go_loud (refine store_all (P := Try.prog) (t := 28) (p := 6) (v := .tmp 25) ?hgd ?hN ?ho g6 (headC no (zeros 16) (zeros 8)) ?hx ?hy _ _ HX.out (hi_head HZ.out) (hold_head HZ.out HZ.out) (head_one _ _ _) w.heap.size w HB.out GE_HX.out ?_; (case hgd => rfl); (case hN => rfl); (case ho => rfl); (case hx => rfl); (case hy => rfl); intro w_ hx_ ho_ hb_; clear cHG_0 cHG_1 cHG_2 cHY_n cHX_n; replace HG := Aside0.mk ((ho_ _ NE_HG_HX.out).trans HG.out); replace HY := Aside0.mk (HeadAt.other HY.out ho_ NE_HY_HX.out); clear HB; have HB := Aside0.mk hb_; clear hb_; clear HX; have HX : Aside0 (HeadAt w_ g6 no (zeros 16) (zeros 8)) := ⟨hx_⟩; clear hx_ ho_; have cHG_0 := c3_0 HG.out; have cHG_1 := c3_1 HG.out; have cHG_2 := c3_2 HG.out; have cHY_n := cell_no HY.out; have cHX_n := cell_no HX.out)))
  refine wp_region_still_tail 4 (by kernel_rfl) (by kernel_rfl) ?_
  change wpStill _ _ (World.drew w_) (fun a' => wpList _ _ _ _ a' (World.drew w_)) _ _
  clear cHG_0 cHG_1 cHG_2 cHY_n cHX_n
  replace HB := Aside0.mk (below_drew HB.out)
  replace HG := Aside0.mk (blk_drew HG.out)
  replace HY := Aside0.mk (HeadAt.drew HY.out)
  replace HX := Aside0.mk (HeadAt.drew HX.out)
  generalize hv_ : World.drew w_ = v1 at HB HG HY HX ⊢
  clear hv_
  have cHG_0 := c3_0 HG.out
  have cHG_1 := c3_1 HG.out
  have cHG_2 := c3_2 HG.out
  have cHY_n := cell_no HY.out
  have cHX_n := cell_no HX.out
  simp only [List.take_succ_cons, List.take_zero, List.drop_succ_cons, List.drop_zero]
  iterate 4 still_step
  refine wpStill_nil ?_
  go_wp2_with (first
      | ((with_reducible refine gate_builtin (b := .copy) (xs := #[.tmp 27, .tmp 29]) rfl ?_); go_loud (refine copy_ev ?hgd (.tmp 27) (.tmp 29) 24 24 ?ho Try.underlying24 g6 1 16 16 A2 240 (c0 - 16) ?hd ?hs _ _ HX.out (l.drop 16) HE2.out (Kd.C_below HC2.out HB.out) 16 ?hm (by decide) (by rw [headC_length HZ.out]; decide) ?_; (case hgd => rfl); (case ho => rfl); (case hd => rfl); (case hs => rfl); (case hm => rfl); intro w_ hx ho_ hg; rw [show (l.drop 16).take 16 = gbl l from rfl, splice_bl (by rfl) HLB.out] at hx; clear cHG_0 cHG_1 cHG_2 cHY_n cHX_n; replace HG := Aside0.mk (grown_blk HG.out hg NE_HG_HX.out); replace HY := Aside0.mk (HeadAt.grown HY.out hg NE_HY_HX.out); replace HB := Aside0.mk (grown_below HB.out hg GE_HX.out); clear HX; have HX : Aside0 (HeadAt w_ g6 no (gbl l) (zeros 8)) := ⟨hx⟩; clear hx ho_ hg; have cHG_0 := c3_0 HG.out; have cHG_1 := c3_1 HG.out; have cHG_2 := c3_2 HG.out; have cHY_n := cell_no HY.out; have cHX_n := cell_no HX.out)))
  refine wp_region_still_tail 4 (by kernel_rfl) (by kernel_rfl) ?_
  change wpStill _ _ (World.drew w_) (fun a' => wpList _ _ _ _ a' (World.drew w_)) _ _
  clear cHG_0 cHG_1 cHG_2 cHY_n cHX_n
  replace HB := Aside0.mk (below_drew HB.out)
  replace HG := Aside0.mk (blk_drew HG.out)
  replace HY := Aside0.mk (HeadAt.drew HY.out)
  replace HX := Aside0.mk (HeadAt.drew HX.out)
  generalize hv_ : World.drew w_ = v2 at HB HG HY HX ⊢
  clear hv_
  have cHG_0 := c3_0 HG.out
  have cHG_1 := c3_1 HG.out
  have cHG_2 := c3_2 HG.out
  have cHY_n := cell_no HY.out
  have cHX_n := cell_no HX.out
  simp only [List.take_succ_cons, List.take_zero, List.drop_succ_cons, List.drop_zero]
  iterate 4 still_step
  refine wpStill_nil ?_
  go_wp2_with (first
      | ((with_reducible refine gate_builtin (b := .copy) (xs := #[.tmp 32, .tmp 34]) rfl ?_); go_loud (refine copy_ev ?hgd (.tmp 32) (.tmp 34) 24 24 ?ho Try.underlying24 g6 17 8 8 A3 224 (c0 - 32) ?hd ?hs _ _ HX.out (l.drop 32) HE3.out (Kd.C_below HC3.out HB.out) 8 ?hm (by decide) (by rw [headC_length HM1.out]; decide) ?_; (case hgd => rfl); (case ho => rfl); (case hd => rfl); (case hs => rfl); (case hm => rfl); intro w_ hx ho_ hg; rw [show (l.drop 32).take 8 = gsl l from rfl, splice_sl HLB.out (by rfl) HLS.out] at hx; clear cHG_0 cHG_1 cHG_2 cHY_n cHX_n; replace HG := Aside0.mk (grown_blk HG.out hg NE_HG_HX.out); replace HY := Aside0.mk (HeadAt.grown HY.out hg NE_HY_HX.out); replace HB := Aside0.mk (grown_below HB.out hg GE_HX.out); clear HX; have HX : Aside0 (HeadAt w_ g6 no (gbl l) (gsl l)) := ⟨hx⟩; clear hx ho_ hg; have cHG_0 := c3_0 HG.out; have cHG_1 := c3_1 HG.out; have cHG_2 := c3_2 HG.out; have cHY_n := cell_no HY.out; have cHX_n := cell_no HX.out))
      | ((with_reducible refine gate_dst (N := 38) rfl ?_); go_loud (refine wl_head ?hw (.tmp 6) ?ho ?hx HX.out HM.out ?_; (case hw => first | rfl | (go_simp; done)); (case ho => rfl); (case hx => rfl)))
      | (go_at_call 8; go_loud ((with_reducible refine (gput_yes G I N no (gbl l) (gsl l) _ HH.out HRP.out).mono ?_); rintro e w_ ⟨gp, rfl, hx, hgp, hb⟩; clear cHG_0 cHG_1 cHG_2 cHY_n cHX_n; replace HB := Aside0.mk (below_step HB.out hb); replace HG := Aside0.mk (blk_below HG.out hb); replace HY := Aside0.mk (HeadAt.below HY.out hb); replace HX := Aside0.mk (HeadAt.below HX.out hb); clear hb hgp; rw [HPL.out] at hx; have HP := Aside0.mk hx; clear hx; have cHG_0 := c3_0 HG.out; have cHG_1 := c3_1 HG.out; have cHG_2 := c3_2 HG.out; have cHY_n := cell_no HY.out; have cHX_n := cell_no HX.out))
      | (go_at_call 35; go_loud ((with_reducible refine (diff_n 256 c0 256 256 x y HEL.out HEP.out (Kd.C_below HC0.out HB.out) HC00.out (C_of_blk HP.out (by rw [HEP.out]; decide)) (Nat.le_refl _) HDF.out).mono ?_); rintro e w_ ⟨rfl, hb⟩; clear HP; clear cHG_0 cHG_1 cHG_2 cHY_n cHX_n; replace HB := Aside0.mk (below_step HB.out hb); replace HG := Aside0.mk (blk_below HG.out hb); replace HY := Aside0.mk (HeadAt.below HY.out hb); replace HX := Aside0.mk (HeadAt.below HX.out hb); clear hb; have cHG_0 := c3_0 HG.out; have cHG_1 := c3_1 HG.out; have cHG_2 := c3_2 HG.out; have cHY_n := cell_no HY.out; have cHX_n := cell_no HX.out))
      | ((refine gate_store (t := 28) (p := 4) rfl ?_); go_loud (refine store_all (P := Try.prog) (t := 28) (p := 4) (v := .tmp 54) ?hgd ?hN ?ho g4 (headC 0 (zeros 16) (zeros 8)) ?hx ?hy _ _ HY.out (hi_head HZ.out) (hold_head HZ.out HZ.out) (head_one _ _ _) w.heap.size w HB.out GE_HY.out ?_; (case hgd => rfl); (case hN => rfl); (case ho => rfl); (case hx => rfl); (case hy => rfl); intro w_ hx_ ho_ hb_; clear cHG_0 cHG_1 cHG_2 cHY_n cHX_n; replace HG := Aside0.mk ((ho_ _ NE_HG_HY.out).trans HG.out); replace HX := Aside0.mk (HeadAt.other HX.out ho_ (Ne.symm NE_HY_HX.out)); clear HB; have HB := Aside0.mk hb_; clear hb_; clear HY; have HY : Aside0 (HeadAt w_ g4 0 (zeros 16) (zeros 8)) := ⟨hx_⟩; clear hx_ ho_; have cHG_0 := c3_0 HG.out; have cHG_1 := c3_1 HG.out; have cHG_2 := c3_2 HG.out; have cHY_n := cell_no HY.out; have cHX_n := cell_no HX.out)))
  refine bodyPost_ret (ret_head_t rfl _ _ g4 rfl HY.out HZ.out) rfl ?_
  exact ⟨rfl, HB.out⟩
theorem gget_any (G I N : Int) (A0 : Option Addr) (c0 : Nat) (l : List Int) (w : World) (hr0 : Kd.C (Kd.int .u8) w A0 l.length l) (hc0 : l.length ≤ c0) (hib : Bits.isBytes l) :
    Calls Try.prog 11 #[.agg #[.int .i64 G, .int .i64 I, .int .i64 N], .slice A0 l.length c0] w fun e w' => e = .returned (.tuple #[headV (getP G I N l).1 (getP G I N l).2.1 (getP G I N l).2.2.1, .int .i64 (getP G I N l).2.2.2]) ∧ Below w.heap.size w w' := by
  unfold getP
  cases hR : Geo.R G I N with
  | false => rw [if_neg (by decide)]; exact gget_1 G I N A0 _ c0 w hR
  | true =>
    rw [if_pos rfl]
    by_cases hl : l.length = 256
    · rw [if_pos hl]
      by_cases hg : goodP G I N l = true
      · rw [if_pos hg]
        exact gget_good G I N A0 c0 l w hr0 hc0 hl hib hR hg
      · rw [if_neg hg]
        unfold goodP at hg
        cases h1 : rightP G I N (noOf l) (gbl l) (gsl l) with
        | false => exact gget_bad1 G I N A0 c0 l w hr0 hc0 hl hib hR h1
        | true =>
          rw [h1, Bool.true_and, decide_eq_true_eq] at hg
          exact gget_bad2 G I N A0 c0 l w hr0 hc0 hl hib hR h1 hg
    · rw [if_neg hl]
      exact gget_4 G I N A0 _ c0 w hR hl
end Go.Proofs.Ytonkgfgciegknaa.P