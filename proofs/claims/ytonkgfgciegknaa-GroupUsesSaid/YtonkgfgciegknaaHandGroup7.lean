/-
group.Put, walked by hand.
Conditions: none.
-/
import Derived.Test.YtonkgfgciegknaaHandGroup6
import Derived.Test.YtonkgfgciegknaaCopyString
namespace Go.Proofs.Ytonkgfgciegknaa.P
open Go.RowKit Go.Proofs.YtonkgfgciegknaaW.PrintWords Go.Proofs.YtonkgfgciegknaaW.PrintLast Go.Proofs.YtonkgfgciegknaaW.PrintMore
attribute [local go_sem] max2_int min2_int max_two min_two max_three min_three max_four min_four
set_option linter.unusedVariables false
set_option linter.unusedSimpArgs false
theorem make_event {P : Program} {ops : Array Oper} {rest : List Oper} {o : Oper} {a : Act} {Q : Exit → Act → World → Prop} {W : World} (hgd : o.guard = none) {cs : Array Value} {t : TypeId} {n c : Nat}
    (hrun : (execOp a.eval o).run P W = .ok (.value (.slice (some ⟨W.heap.size, 0, none⟩) n c)) (W.alloc (.cells cs t (0, 0))))
    (h : ∀ g, g = W.heap.size → ∀ w1, w1.heap[g]? = some (.cells cs t (0, 0)) → Below W.heap.size W w1 → wpList P ops Q rest (a.put o.dst (.slice (some ⟨g, 0, none⟩) n c)) w1) : wpList P ops Q (o :: rest) a W :=
  Kd.event_run hgd hrun (h _ rfl _ (blk_new W _) (below_alloc (Below.refl _ _) _))
theorem nums_splice (l m : List Int) (off : Nat) : splice (nums .u8 l) off (nums .u8 m) = nums .u8 (splice l off m) := by
  simp [splice, nums, List.map_take, List.map_drop]
theorem splice_length (l m : List Int) (off : Nat) (h : off + m.length ≤ l.length) : (splice l off m).length = l.length := by simp [splice]; omega
def markG : List Int := [76, 71, 82, 80]
theorem markG_cells : strCells ⟨#[76, 71, 82, 80]⟩ = nums .u8 markG := by rfl
/-- A header's bytes, ahead of its maps. -/
def hd3 (v : List Int) : Nat → List Int
  | 0 => splice (zeros 256) 0 markG
  | i + 1 => splice (hd3 v i) (4 + 2 * i) (putV (IntKind.u64.wrap (v.getD i 0)) 2)
theorem hd3_length (v : List Int) : ∀ i, i ≤ 3 → (hd3 v i).length = 256
  | 0, _ => by
    have hz : (zeros 256).length = 256 := List.length_replicate
    rw [hd3, splice_length _ _ _ (by rw [hz]; decide), hz]
  | i + 1, h => by
    have ih := hd3_length v i (by omega)
    rw [hd3, splice_length _ _ _ (by rw [putV_length, ih]; omega), ih]
theorem HeadAt.under {B : Nat} {w w1 : World} {k : Nat} {no : Int} {bl sl : List Int} (h : HeadAt w k no bl sl) (hb : Below B w w1) (hl : k < B) : HeadAt w1 k no bl sl := (hb.block k hl).trans h
def putL (no x y : Int) (bl sl : List Int) : List Int := splice (splice (hd3 [no, x, y] 3) 16 bl) 32 sl
theorem putL_length {no x y : Int} {bl sl : List Int} (h : Maps bl sl) : (putL no x y bl sl).length = 256 := by
  unfold putL
  rw [splice_length _ _ _ (by rw [splice_length _ _ _ (by rw [hd3_length _ _ (by decide), h.1]; decide), hd3_length _ _ (by decide), h.2]; decide), splice_length _ _ _ (by rw [hd3_length _ _ (by decide), h.1]; decide), hd3_length _ _ (by decide)]
set_option maxHeartbeats 16000000 in
set_option maxRecDepth 100000 in
theorem gput_no (G I N no : Int) (bl sl : List Int) (w : World) (hm : HM bl sl) (hr : rightP G I N no bl sl = false) :
    Calls Try.prog 8 #[.agg #[.int .i64 G, .int .i64 I, .int .i64 N], headV no bl sl] w fun e w' => e = .returned (.tuple #[.slice none 0 0, .int .i64 1]) ∧ Below w.heap.size w w' := by
  have HH := Aside0.mk hm
  have HM := Aside0.mk hm.maps
  have HL1 := Aside0.mk hm.maps.1
  have HL2 := Aside0.mk hm.maps.2
  have RA := Aside0.mk (fun (w : World) => right_any G I N no bl sl w hm)
  rw [hr] at RA
  clear hm hr
  have HB := Aside0.mk (Below.refl w.heap.size w)
  go_enter Try.func8, Try.ntmps8
  go_wp2_with (first
    | ((with_reducible refine gate_dst (N := 2) rfl ?_); go_loud (refine box_event ?hg (N := 2) ?hd (cs := ([.int .i64 G, .int .i64 I, .int .i64 N]).toArray) (t := 23) ?hr ?_; (case hd => rfl); (case hg => rfl); (case hr => first | kernel_rfl | (go_simp; done) | (go_simp; rfl)); intro g2 hg w_ hx hb; have GE_HG := Aside0.mk (show w.heap.size ≤ g2 by have := HB.out.size; omega); clear hg; replace HB := Aside0.mk (below_step HB.out hb); clear hb; have HG : Aside0 (w_.heap[g2]? = some (.cells #[.int .i64 G, .int .i64 I, .int .i64 N] 23 (0, 0))) := ⟨hx⟩; clear hx; have cHG_0 := c3_0 HG.out; have cHG_1 := c3_1 HG.out; have cHG_2 := c3_2 HG.out))
    | ((with_reducible refine gate_dst (N := 3) rfl ?_); go_loud (refine box_event ?hg (N := 3) ?hd (cs := (headC no bl sl).toArray) (t := 28) ?hr ?_; (case hd => rfl); (case hg => rfl); (case hr => kernel_rfl); intro g3 hg w_ hx hb; have NE_HG_HX := Aside0.mk (new_ne HG.out hg); have GE_HX := Aside0.mk (show w.heap.size ≤ g3 by have := HB.out.size; omega); clear hg; clear cHG_0 cHG_1 cHG_2; replace HB := Aside0.mk (below_step HB.out hb); replace HG := Aside0.mk (blk_below HG.out hb); clear hb; have HX : Aside0 (HeadAt w_ g3 no bl sl) := ⟨hx⟩; clear hx; have cHG_0 := c3_0 HG.out; have cHG_1 := c3_1 HG.out; have cHG_2 := c3_2 HG.out; have cHX_n := cell_no HX.out))
    | ((with_reducible refine gate_dst (N := 12) rfl ?_); go_loud (refine wl_head ?hw (.tmp 3) ?ho ?hx HX.out HM.out ?_; (case hw => first | rfl | (go_simp; done)); (case ho => rfl); (case hx => rfl)))
    | (go_at_call 16; go_loud ((with_reducible refine (RA.out _).mono ?_); rintro e w_ ⟨rfl, hb⟩; clear cHG_0 cHG_1 cHG_2 cHX_n; replace HB := Aside0.mk (below_step HB.out hb); replace HG := Aside0.mk (blk_below HG.out hb); replace HX := Aside0.mk (HeadAt.below HX.out hb); clear hb; have cHG_0 := c3_0 HG.out; have cHG_1 := c3_1 HG.out; have cHG_2 := c3_2 HG.out; have cHX_n := cell_no HX.out)))
  go_ret2
  exact ⟨rfl, HB.out⟩
set_option maxHeartbeats 16000000 in
set_option maxRecDepth 100000 in
theorem gput_yes (G I N no : Int) (bl sl : List Int) (w : World) (hm : HM bl sl) (hr : rightP G I N no bl sl = true) :
    Calls Try.prog 8 #[.agg #[.int .i64 G, .int .i64 I, .int .i64 N], headV no bl sl] w fun e w' => ∃ g, e = .returned (.tuple #[.slice (some ⟨g, 0, none⟩) 256 256, .int .i64 0]) ∧ w'.heap[g]? = some (.cells (nums .u8 (putL no (freeP G I N no bl sl).1 (freeP G I N no bl sl).2 bl sl)).toArray 5 (0, 0)) ∧ w.heap.size ≤ g ∧ Below w.heap.size w w' := by
  have HH := Aside0.mk hm
  have HM := Aside0.mk hm.maps
  have HL1 := Aside0.mk hm.maps.1
  have HL2 := Aside0.mk hm.maps.2
  have RA := Aside0.mk (fun (w : World) => right_any G I N no bl sl w hm)
  rw [hr] at RA
  have hmk : ∀ W : World, Sem.run Try.prog (Instr.makeSlice 24 (.int .i64 256) (.int .i64 256)) W = .ok (.slice (some ⟨W.heap.size, 0, none⟩) 256 256) (W.alloc (.cells (nums .u8 (zeros 256)).toArray 5 (0, 0))) := by
    have h := print_make (P := Try.prog) 24 5 .u8 1 Try.underlying24 info5 (by omega) 256 (by omega)
    simp only [made_eq] at h
    intro W
    exact h W
  have hsz5 : (Try.prog.info? 5).map (·.size) = some 1 := by kernel_rfl
  have FA := Aside0.mk (fun (w : World) => free_any G I N no bl sl w hm)
  obtain ⟨fx, hfx⟩ : ∃ x, x = (freeP G I N no bl sl).1 := ⟨_, rfl⟩
  obtain ⟨fy, hfy⟩ : ∃ x, x = (freeP G I N no bl sl).2 := ⟨_, rfl⟩
  rw [← hfx, ← hfy] at FA ⊢
  clear hm hr hfx hfy
  have HB := Aside0.mk (Below.refl w.heap.size w)
  go_enter Try.func8, Try.ntmps8
  go_wp2_with (first
    | ((with_reducible refine gate_dst (N := 2) rfl ?_); go_loud (refine box_event ?hg (N := 2) ?hd (cs := ([.int .i64 G, .int .i64 I, .int .i64 N]).toArray) (t := 23) ?hr ?_; (case hd => rfl); (case hg => rfl); (case hr => first | kernel_rfl | (go_simp; done) | (go_simp; rfl)); intro g2 hg w_ hx hb; have GE_HG := Aside0.mk (show w.heap.size ≤ g2 by have := HB.out.size; omega); clear hg; replace HB := Aside0.mk (below_step HB.out hb); clear hb; have HG : Aside0 (w_.heap[g2]? = some (.cells #[.int .i64 G, .int .i64 I, .int .i64 N] 23 (0, 0))) := ⟨hx⟩; clear hx; have cHG_0 := c3_0 HG.out; have cHG_1 := c3_1 HG.out; have cHG_2 := c3_2 HG.out))
    | ((with_reducible refine gate_dst (N := 3) rfl ?_); go_loud (refine box_event ?hg (N := 3) ?hd (cs := (headC no bl sl).toArray) (t := 28) ?hr ?_; (case hd => rfl); (case hg => rfl); (case hr => kernel_rfl); intro g3 hg w_ hx hb; have NE_HG_HX := Aside0.mk (new_ne HG.out hg); have GE_HX := Aside0.mk (show w.heap.size ≤ g3 by have := HB.out.size; omega); clear hg; clear cHG_0 cHG_1 cHG_2; replace HB := Aside0.mk (below_step HB.out hb); replace HG := Aside0.mk (blk_below HG.out hb); clear hb; have HX : Aside0 (HeadAt w_ g3 no bl sl) := ⟨hx⟩; clear hx; have cHG_0 := c3_0 HG.out; have cHG_1 := c3_1 HG.out; have cHG_2 := c3_2 HG.out; have cHX_n := cell_no HX.out))
    | ((with_reducible refine gate_dst (N := 12) rfl ?_); go_loud (refine wl_head ?hw (.tmp 3) ?ho ?hx HX.out HM.out ?_; (case hw => first | rfl | (go_simp; done)); (case ho => rfl); (case hx => rfl)))
    | (go_at_call 16; go_loud ((with_reducible refine (RA.out _).mono ?_); rintro e w_ ⟨rfl, hb⟩; clear cHG_0 cHG_1 cHG_2 cHX_n; replace HB := Aside0.mk (below_step HB.out hb); replace HG := Aside0.mk (blk_below HG.out hb); replace HX := Aside0.mk (HeadAt.below HX.out hb); clear hb; have cHG_0 := c3_0 HG.out; have cHG_1 := c3_1 HG.out; have cHG_2 := c3_2 HG.out; have cHX_n := cell_no HX.out))
    | ((with_reducible refine gate_dst (N := 15) rfl ?_); go_loud (refine make_event ?hg (cs := (nums .u8 (zeros 256)).toArray) (t := 5) (n := 256) (c := 256) ?hr ?_; (case hg => rfl); (case hr => first | (go_simp; done) | (go_simp; rfl)); intro g6 hg w_ hx hb; have LT_HG := Aside0.mk (show g2 < g6 by have := blk_lt HG.out; omega); have LT_HX := Aside0.mk (show g3 < g6 by have := blk_lt HX.out; omega); have GE_HK := Aside0.mk (show w.heap.size ≤ g6 by have := HB.out.size; omega); clear hg hmk; clear cHG_0 cHG_1 cHG_2 cHX_n; replace HB := Aside0.mk (below_step HB.out hb); replace HG := Aside0.mk (blk_below HG.out hb); replace HX := Aside0.mk (HeadAt.below HX.out hb); clear hb; have HK : Aside0 (w_.heap[g6]? = some (.cells (nums .u8 (zeros 256)).toArray 5 (0, 0))) := ⟨hx⟩; clear hx; have cHG_0 := c3_0 HG.out; have cHG_1 := c3_1 HG.out; have cHG_2 := c3_2 HG.out; have cHX_n := cell_no HX.out))
    | ((with_reducible refine gate_builtin (b := .copy) (xs := #[.tmp 16, .const (.string ⟨#[76, 71, 82, 80]⟩)]) rfl ?_); go_loud (refine copy_string ?hgd (.tmp 16) (.const (.string ⟨#[76, 71, 82, 80]⟩)) 24 9 ?ho 5 Try.underlying24 hsz5 g6 0 256 256 ⟨#[76, 71, 82, 80]⟩ ?hd ?hs (nums .u8 (zeros 256)) 5 HK.out (by decide) (by rw [nums_length]; decide) w.heap.size w HB.out GE_HK.out ?_; (case hgd => rfl); (case ho => rfl); (case hd => rfl); (case hs => rfl); intro w_ hx ho_ hb_; rw [markG_cells, nums_splice] at hx; clear cHG_0 cHG_1 cHG_2 cHX_n; replace HG := Aside0.mk ((ho_ _ (Nat.ne_of_lt LT_HG.out)).trans HG.out); replace HX := Aside0.mk (HeadAt.other HX.out ho_ (Nat.ne_of_lt LT_HX.out)); clear HB HK; have HB := Aside0.mk hb_; have HK : Aside0 (w_.heap[g6]? = some (.cells (nums .u8 (hd3 [no, fx, fy] 0)).toArray 5 (0, 0))) := ⟨hx⟩; clear hb_ hx ho_; have cHG_0 := c3_0 HG.out; have cHG_1 := c3_1 HG.out; have cHG_2 := c3_2 HG.out; have cHX_n := cell_no HX.out))
    | ((with_reducible refine gate_dst (N := 20) rfl ?_); go_loud (refine wl_head ?hw (.tmp 3) ?ho ?hx HX.out HM.out ?_; (case hw => first | rfl | (go_simp; done)); (case ho => rfl); (case hx => rfl)))
    | (go_at_call 24; go_loud ((with_reducible refine (FA.out _).mono ?_); rintro e w_ ⟨rfl, hb⟩; clear cHG_0 cHG_1 cHG_2 cHX_n; replace HB := Aside0.mk (below_step HB.out hb); replace HG := Aside0.mk (blk_below HG.out hb); replace HX := Aside0.mk (HeadAt.below HX.out hb); replace HK := Aside0.mk (blk_below HK.out hb); clear hb; have cHG_0 := c3_0 HG.out; have cHG_1 := c3_1 HG.out; have cHG_2 := c3_2 HG.out; have cHX_n := cell_no HX.out)))
  clear cHG_0 cHG_1 cHG_2 cHX_n
  go_loopw [29] (fun v29 wr => ∃ (i : Nat) (x : Int), i ≤ 3 ∧ x = i ∧ v29 = .int .i64 x ∧ Aside0 (Below w.heap.size w wr) ∧ Aside0 (wr.heap[g2]? = some (.cells #[.int .i64 G, .int .i64 I, .int .i64 N] 23 (0, 0))) ∧ Aside0 (HeadAt wr g3 no bl sl) ∧ Aside0 (wr.heap[g6]? = some (.cells (nums .u8 (hd3 [no, fx, fy] i)).toArray 5 (0, 0)))) (fun v29 _ => 3 - (intOf v29).toNat)
  case atStart => exact ⟨0, 0, by omega, rfl, rfl, HB, HG, HX, HK⟩
  case round =>
    clear HB HG HX HK
    obtain ⟨i, x, hi, hx, rfl, HB, HG, HX, HK⟩ := hrel
    have hcase : (i = 0 ∧ x = 0) ∨ (i = 1 ∧ x = 1) ∨ (i = 2 ∧ x = 2) ∨ (i = 3 ∧ x = 3) := by omega
    clear hi hx
    rcases hcase with ⟨rfl, rfl⟩ | ⟨rfl, rfl⟩ | ⟨rfl, rfl⟩ | ⟨rfl, rfl⟩
    · have hix : ∀ W : World, (Instr.index 62 (.agg #[.int .i64 no, .int .i64 fx, .int .i64 fy]) (.int .i64 0)).run Try.prog W = .ok (.int .i64 no) W := fun _ => by kernel_rfl
      have cHG_0 := c3_0 HG.out; have cHG_1 := c3_1 HG.out; have cHG_2 := c3_2 HG.out; have cHX_n := cell_no HX.out
      go_wp2_with (first
          | (go_at_call 31; go_loud ((with_reducible refine (put_cells g6 4 2 252 (nums .u8 (hd3 [no, fx, fy] 0)) 5 (IntKind.u64.wrap no) _ HK.out (by rw [nums_length, hd3_length _ _ (by decide)]; decide) (by decide)).mono ?_); rintro e w_ ⟨rfl, hx, hb⟩; rw [nums_splice] at hx; clear cHG_0 cHG_1 cHG_2 cHX_n; replace HG := Aside0.mk ((hb.block _ LT_HG.out).trans HG.out); replace HX := Aside0.mk (HeadAt.under HX.out hb LT_HX.out); replace HB := Aside0.mk (below_weaken HB.out GE_HK.out hb); clear HK; have HK : Aside0 (w_.heap[g6]? = some (.cells (nums .u8 (hd3 [no, fx, fy] 1)).toArray 5 (0, 0))) := ⟨hx⟩; clear hx hb; have cHG_0 := c3_0 HG.out; have cHG_1 := c3_1 HG.out; have cHG_2 := c3_2 HG.out; have cHX_n := cell_no HX.out)))
      go_roundw
      case rel => exact ⟨1, 1, by omega, rfl, by go_num, HB, HG, HX, HK⟩
      case measure => simp [intOf]
    · have hix : ∀ W : World, (Instr.index 62 (.agg #[.int .i64 no, .int .i64 fx, .int .i64 fy]) (.int .i64 1)).run Try.prog W = .ok (.int .i64 fx) W := fun _ => by kernel_rfl
      have cHG_0 := c3_0 HG.out; have cHG_1 := c3_1 HG.out; have cHG_2 := c3_2 HG.out; have cHX_n := cell_no HX.out
      go_wp2_with (first
          | (go_at_call 31; go_loud ((with_reducible refine (put_cells g6 6 2 250 (nums .u8 (hd3 [no, fx, fy] 1)) 5 (IntKind.u64.wrap fx) _ HK.out (by rw [nums_length, hd3_length _ _ (by decide)]; decide) (by decide)).mono ?_); rintro e w_ ⟨rfl, hx, hb⟩; rw [nums_splice] at hx; clear cHG_0 cHG_1 cHG_2 cHX_n; replace HG := Aside0.mk ((hb.block _ LT_HG.out).trans HG.out); replace HX := Aside0.mk (HeadAt.under HX.out hb LT_HX.out); replace HB := Aside0.mk (below_weaken HB.out GE_HK.out hb); clear HK; have HK : Aside0 (w_.heap[g6]? = some (.cells (nums .u8 (hd3 [no, fx, fy] 2)).toArray 5 (0, 0))) := ⟨hx⟩; clear hx hb; have cHG_0 := c3_0 HG.out; have cHG_1 := c3_1 HG.out; have cHG_2 := c3_2 HG.out; have cHX_n := cell_no HX.out)))
      go_roundw
      case rel => exact ⟨2, 2, by omega, rfl, by go_num, HB, HG, HX, HK⟩
      case measure => simp [intOf]
    · have hix : ∀ W : World, (Instr.index 62 (.agg #[.int .i64 no, .int .i64 fx, .int .i64 fy]) (.int .i64 2)).run Try.prog W = .ok (.int .i64 fy) W := fun _ => by kernel_rfl
      have cHG_0 := c3_0 HG.out; have cHG_1 := c3_1 HG.out; have cHG_2 := c3_2 HG.out; have cHX_n := cell_no HX.out
      go_wp2_with (first
          | (go_at_call 31; go_loud ((with_reducible refine (put_cells g6 8 2 248 (nums .u8 (hd3 [no, fx, fy] 2)) 5 (IntKind.u64.wrap fy) _ HK.out (by rw [nums_length, hd3_length _ _ (by decide)]; decide) (by decide)).mono ?_); rintro e w_ ⟨rfl, hx, hb⟩; rw [nums_splice] at hx; clear cHG_0 cHG_1 cHG_2 cHX_n; replace HG := Aside0.mk ((hb.block _ LT_HG.out).trans HG.out); replace HX := Aside0.mk (HeadAt.under HX.out hb LT_HX.out); replace HB := Aside0.mk (below_weaken HB.out GE_HK.out hb); clear HK; have HK : Aside0 (w_.heap[g6]? = some (.cells (nums .u8 (hd3 [no, fx, fy] 3)).toArray 5 (0, 0))) := ⟨hx⟩; clear hx hb; have cHG_0 := c3_0 HG.out; have cHG_1 := c3_1 HG.out; have cHG_2 := c3_2 HG.out; have cHX_n := cell_no HX.out)))
      go_roundw
      case rel => exact ⟨3, 3, by omega, rfl, by go_num, HB, HG, HX, HK⟩
      case measure => simp [intOf]
    · have cHG_0 := c3_0 HG.out; have cHG_1 := c3_1 HG.out; have cHG_2 := c3_2 HG.out; have cHX_n := cell_no HX.out
      have HLK16 := Aside0.mk (hd3_length [no, fx, fy] 3 (by decide))
      have HLK32 : Aside0 ((splice (hd3 [no, fx, fy] 3) 16 bl).length = 256) := ⟨by rw [splice_length _ _ _ (by rw [HLK16.out, HL1.out]; decide), HLK16.out]⟩
      go_wp2
      refine wp_region_still_tail 4 (by kernel_rfl) (by kernel_rfl) ?_
      change wpStill _ _ (World.drew wr) (fun a' => wpList _ _ _ _ a' (World.drew wr)) _ _
      clear cHG_0 cHG_1 cHG_2 cHX_n
      replace HB := Aside0.mk (below_drew HB.out)
      replace HG := Aside0.mk (blk_drew HG.out)
      replace HX := Aside0.mk (HeadAt.drew HX.out)
      replace HK := Aside0.mk (blk_drew HK.out)
      generalize hv_ : World.drew wr = v1 at HB HG HX HK ⊢
      clear hv_
      have cHG_0 := c3_0 HG.out
      have cHG_1 := c3_1 HG.out
      have cHG_2 := c3_2 HG.out
      have cHX_n := cell_no HX.out
      simp only [List.take_succ_cons, List.take_zero, List.drop_succ_cons, List.drop_zero]
      iterate 4 still_step
      refine wpStill_nil ?_
      go_wp2_with (first
          | ((with_reducible refine gate_builtin (b := .copy) (xs := #[.tmp 47, .tmp 49]) rfl ?_); go_loud (refine copy_ev ?hgd (.tmp 47) (.tmp 49) 24 24 ?ho Try.underlying24 g6 16 240 240 (some ⟨g3, 1, none⟩) 16 16 ?hd ?hs _ _ HK.out bl HL1.out (C_bl HX.out HM.out) 16 ?hm (by decide) (by rw [nums_length, HLK16.out]; decide) ?_; (case hgd => rfl); (case ho => rfl); (case hd => rfl); (case hs => rfl); (case hm => rfl); intro w_ hx ho_ hg; rw [List.take_of_length_le (by rw [HL1.out]; decide), nums_splice] at hx; clear cHG_0 cHG_1 cHG_2 cHX_n; replace HG := Aside0.mk (grown_blk HG.out hg (Nat.ne_of_lt LT_HG.out)); replace HX := Aside0.mk (HeadAt.grown HX.out hg (Nat.ne_of_lt LT_HX.out)); replace HB := Aside0.mk (grown_below HB.out hg GE_HK.out); clear HK; have HK : Aside0 (w_.heap[g6]? = some (.cells (nums .u8 (splice (hd3 [no, fx, fy] 3) 16 bl)).toArray 5 (0, 0))) := ⟨hx⟩; clear hx ho_ hg; have cHG_0 := c3_0 HG.out; have cHG_1 := c3_1 HG.out; have cHG_2 := c3_2 HG.out; have cHX_n := cell_no HX.out)))
      refine wp_region_still_tail 4 (by kernel_rfl) (by kernel_rfl) ?_
      change wpStill _ _ (World.drew w_) (fun a' => wpList _ _ _ _ a' (World.drew w_)) _ _
      clear cHG_0 cHG_1 cHG_2 cHX_n
      replace HB := Aside0.mk (below_drew HB.out)
      replace HG := Aside0.mk (blk_drew HG.out)
      replace HX := Aside0.mk (HeadAt.drew HX.out)
      replace HK := Aside0.mk (blk_drew HK.out)
      generalize hv_ : World.drew w_ = v2 at HB HG HX HK ⊢
      clear hv_
      have cHG_0 := c3_0 HG.out
      have cHG_1 := c3_1 HG.out
      have cHG_2 := c3_2 HG.out
      have cHX_n := cell_no HX.out
      simp only [List.take_succ_cons, List.take_zero, List.drop_succ_cons, List.drop_zero]
      iterate 4 still_step
      refine wpStill_nil ?_
      go_wp2_with (first
          | ((with_reducible refine gate_builtin (b := .copy) (xs := #[.tmp 52, .tmp 54]) rfl ?_); go_loud (refine copy_ev ?hgd (.tmp 52) (.tmp 54) 24 24 ?ho Try.underlying24 g6 32 224 224 (some ⟨g3, 17, none⟩) 8 8 ?hd ?hs _ _ HK.out sl HL2.out (C_sl HX.out HM.out) 8 ?hm (by decide) (by rw [nums_length, HLK32.out]; decide) ?_; (case hgd => rfl); (case ho => rfl); (case hd => rfl); (case hs => rfl); (case hm => rfl); intro w_ hx ho_ hg; rw [List.take_of_length_le (by rw [HL2.out]; decide), nums_splice] at hx; clear cHG_0 cHG_1 cHG_2 cHX_n; replace HG := Aside0.mk (grown_blk HG.out hg (Nat.ne_of_lt LT_HG.out)); replace HX := Aside0.mk (HeadAt.grown HX.out hg (Nat.ne_of_lt LT_HX.out)); replace HB := Aside0.mk (grown_below HB.out hg GE_HK.out); clear HK; have HK : Aside0 (w_.heap[g6]? = some (.cells (nums .u8 (putL no fx fy bl sl)).toArray 5 (0, 0))) := ⟨hx⟩; clear hx ho_ hg; have cHG_0 := c3_0 HG.out; have cHG_1 := c3_1 HG.out; have cHG_2 := c3_2 HG.out; have cHX_n := cell_no HX.out)))
      go_ret2
      exact ⟨g6, rfl, HK.out, GE_HK.out, HB.out⟩
end Go.Proofs.Ytonkgfgciegknaa.P