-- PRINTED by print.py (a twelfth state) out of the translation. Not trusted: Lean checks it.
import Derived.Test.YtonkgfgciegknaaPx0
import Derived.Test.YtonkgfgciegknaaPx4
import Derived.Test.YtonkgfgciegknaaPx9
import Derived.Test.YtonkgfgciegknaaHand
import Derived.Test.YtonkgfgciegknaaCells
namespace Go.Proofs.Ytonkgfgciegknaa.P
open Go.RowKit Go.Proofs.YtonkgfgciegknaaW.PrintWords Go.Proofs.YtonkgfgciegknaaW.PrintLast Go.Proofs.YtonkgfgciegknaaW.PrintMore
attribute [local go_sem] max2_int min2_int max_two min_two max_three min_three max_four min_four   -- for this text's walks alone
set_option linter.unusedVariables false
set_option linter.unusedSimpArgs false

/-! ### leveeref06_Fresh: function 14 -/
mutual
def leveeref06_Fresh.j0 : Nat → Int → Bool → Int → Int → Int → Int → List Int → List Int → Option (Int × List Int × List Int × Int)
 | 0, _, _, _, _, _, _, _, _ => none
 | k + 1, x1, x25, x214000, x214001, x214002, x222000, x222001, x222002 => if x25 = true then (some (0, ([] : List Int), ([] : List Int), 1)) else (leveeref06_Fresh.l0 k x1 0 x214000 x214001 x214002 x222000 x222001 x222002)
def leveeref06_Fresh.l0 : Nat → Int → Int → Int → Int → Int → Int → List Int → List Int → Option (Int × List Int × List Int × Int)
 | 0, _, _, _, _, _, _, _, _ => none
 | k + 1, x1, x7, x214000, x214001, x214002, x222000, x222001, x222002 => if x7 < (wrap64 (1 + (wrap64 (Int.tdiv x214001 4)))) then ((leveeref05_Set.f k x222001 x7 true).bind fun bt223 => (leveeref06_Fresh.l0 k x1 (wrap64 (x7 + 1)) x214000 x214001 x214002 x222000 bt223.1 x222002)) else (leveeref06_Fresh.l1 k x1 0 x222000 x222001 x222002)
def leveeref06_Fresh.l1 : Nat → Int → Int → Int → List Int → List Int → Option (Int × List Int × List Int × Int)
 | 0, _, _, _, _, _ => none
 | k + 1, x1, x8, x222000, x222001, x222002 => if x8 < 2 then (if x1 = 0 then ((leveeref05_Set.f k x222002 x8 true).bind fun bt227 => (leveeref06_Fresh.l1 k x1 (wrap64 (x8 + 1)) x222000 x222001 bt227.1)) else (some (x222000, x222001, x222002, 0))) else (some (x222000, x222001, x222002, 0))
end
def leveeref06_Fresh.f (k : Nat) (a0_0 : Int) (a0_1 : Int) (a0_2 : Int) (a1 : Int) : Option (Int × List Int × List Int × Int) := if 16 ≤ 281474976710656 then ((some (List.replicate 16 0 : List Int)).bind fun y215 => (if 8 ≤ 281474976710656 then ((some (List.replicate 8 0 : List Int)).bind fun y218 => ((leveeref03_Right.f a0_0 a0_1 a0_2).bind fun t222 => (if t222 = true then (if a1 < 0 then (leveeref06_Fresh.j0 k a1 true a0_0 a0_1 a0_2 a1 y215 y218) else (leveeref06_Fresh.j0 k a1 (decide (a1 ≥ a0_2)) a0_0 a0_1 a0_2 a1 y215 y218)) else (leveeref06_Fresh.j0 k a1 true a0_0 a0_1 a0_2 a1 y215 y218)))) else (none))) else (none)
set_option maxHeartbeats 8000000 in
set_option maxRecDepth 100000 in
theorem leveeref06_Fresh.calls (k : Nat) (a0_0 : Int) (a0_1 : Int) (a0_2 : Int) (a1 : Int) (r1 : Int) (r2 : List Int) (r3 : List Int) (r4 : Int) (w : World) (h : leveeref06_Fresh.f k a0_0 a0_1 a0_2 a1 = some (r1, r2, r3, r4)) :
  Calls Try.prog 14 #[.agg #[.int .i64 a0_0, .int .i64 a0_1, .int .i64 a0_2], .int .i64 a1] w fun e w' => ∃ v1_ v2_ : Value, e = .returned (.tuple #[.agg #[.int .i64 r1, v1_, v2_], .int .i64 r4]) ∧ Kd.R (Kd.int .u8) 5 w' w.heap.size (fun k_ => some k_ ≠ (v2_ : Value).ownBlock) v1_ r2 ∧ Kd.R (Kd.int .u8) 5 w' w.heap.size (fun k_ => some k_ ≠ (v1_ : Value).ownBlock) v2_ r3 ∧ Below w.heap.size w w' := by
 have hu23 := Try.underlying23
 have hu31 := Try.underlying31
 have HB := Aside0.mk (Below.refl w.heap.size w)
 have H : (if 16 ≤ 281474976710656 then ((some (List.replicate 16 0 : List Int)).bind fun y215 => (if 8 ≤ 281474976710656 then ((some (List.replicate 8 0 : List Int)).bind fun y218 => ((leveeref03_Right.f a0_0 a0_1 a0_2).bind fun t222 => (if t222 = true then (if a1 < 0 then (leveeref06_Fresh.j0 k a1 true a0_0 a0_1 a0_2 a1 y215 y218) else (leveeref06_Fresh.j0 k a1 (decide (a1 ≥ a0_2)) a0_0 a0_1 a0_2 a1 y215 y218)) else (leveeref06_Fresh.j0 k a1 true a0_0 a0_1 a0_2 a1 y215 y218)))) else (none))) else (none)) = some (r1, r2, r3, r4) := h
 clear h
 by_cases c3 : 16 ≤ 281474976710656
 ·rw [if_pos c3] at H
  have c3b0 := eq_true c3
  have c3b1 : decide (16 ≤ 281474976710656) = true := decide_eq_true c3
  clear c3
  obtain ⟨y215, hy215⟩ : ∃ y_ : List Int, y_ = (List.replicate 16 0) := ⟨_, rfl⟩
  replace H : (if 8 ≤ 281474976710656 then ((some (List.replicate 8 0 : List Int)).bind fun y218 => ((leveeref03_Right.f a0_0 a0_1 a0_2).bind fun t222 => (if t222 = true then (if a1 < 0 then (leveeref06_Fresh.j0 k a1 true a0_0 a0_1 a0_2 a1 y215 y218) else (leveeref06_Fresh.j0 k a1 (decide (a1 ≥ a0_2)) a0_0 a0_1 a0_2 a1 y215 y218)) else (leveeref06_Fresh.j0 k a1 true a0_0 a0_1 a0_2 a1 y215 y218)))) else (none)) = some (r1, r2, r3, r4) := by first | (rw [hy215]; with_reducible exact H) | (have H2_ := (Option.bind_some _ _).symm.trans H; rw [hy215]; with_reducible exact H2_) | (have H2_ := (Option.bind_some _ _).symm.trans H; with_reducible exact H2_) | with_reducible exact H | (rw [hy215]; exact H) | exact H
  have Ny215 := Aside0.mk hy215
  clear hy215
  by_cases c4 : 8 ≤ 281474976710656
  ·rw [if_pos c4] at H
   have c4b0 := eq_true c4
   have c4b1 : decide (8 ≤ 281474976710656) = true := decide_eq_true c4
   clear c4
   obtain ⟨y218, hy218⟩ : ∃ y_ : List Int, y_ = (List.replicate 8 0) := ⟨_, rfl⟩
   replace H : ((leveeref03_Right.f a0_0 a0_1 a0_2).bind fun t222 => (if t222 = true then (if a1 < 0 then (leveeref06_Fresh.j0 k a1 true a0_0 a0_1 a0_2 a1 y215 y218) else (leveeref06_Fresh.j0 k a1 (decide (a1 ≥ a0_2)) a0_0 a0_1 a0_2 a1 y215 y218)) else (leveeref06_Fresh.j0 k a1 true a0_0 a0_1 a0_2 a1 y215 y218))) = some (r1, r2, r3, r4) := by first | (rw [hy218]; with_reducible exact H) | (have H2_ := (Option.bind_some _ _).symm.trans H; rw [hy218]; with_reducible exact H2_) | (have H2_ := (Option.bind_some _ _).symm.trans H; with_reducible exact H2_) | with_reducible exact H | (rw [hy218]; exact H) | exact H
   have Ny218 := Aside0.mk hy218
   clear hy218
   have HC5 := Aside0.mk H
   clear H
   go_enter Try.func14, Try.ntmps14
   try go_wp2_with (first | ((with_reducible refine gate_dst (N := 2) rfl ?_); refine box_event ?hg (N := 2) ?hd (cs := #[.int .i64 a0_0, .int .i64 a0_1, .int .i64 a0_2]) (t := 23) ?hr ?_; (case hd => rfl); (case hg => rfl); (case hr => first | (go_simp; done) | (go_simp; rfl)); intro gb213 hg w6 hbox hb; have n0_ := Aside0.mk (below_step (by repeat (first | (with_reducible first | exact HB.out | apply bA | apply bN | apply bD) | exact HB.out)) hb); have n1_ := Aside0.mk (hbox); have n2_ := Aside0.mk ((by rw [hg]; exact (below_size (by repeat (first | (with_reducible first | exact HB.out | apply bA | apply bN | apply bD) | exact HB.out))) : w.heap.size ≤ gb213)); have n3_ := Aside0.mk ((by rw [hg]; exact (below_size (by repeat (first | (with_reducible first | exact HB.out | apply bA | apply bN | apply bD) | exact HB.out))) : w.heap.size ≤ gb213)); clear HB; have HB := n0_; have BK213 := n1_; have GW213 := n2_; have GE213 := n3_; clear n0_ n1_ n2_ n3_; clear hb hbox hg) | ((with_reducible refine gate_dst (N := 4) rfl ?_); refine box_event ?hg (N := 4) ?hd (cs := #[.int .i64 0, .slice none 0 0, .slice none 0 0]) (t := 31) ?hr ?_; (case hd => rfl); (case hg => rfl); (case hr => first | (go_simp; done) | (go_simp; rfl)); intro gb214 hg w7 hbox hb; have n0_ := Aside0.mk (blk_below (g := gb213) (o := .cells #[.int .i64 a0_0, .int .i64 a0_1, .int .i64 a0_2] 23 (0, 0)) (by (with_reducible repeat first | apply kN | apply kd | apply ka); exact BK213.out) hb); have n1_ := Aside0.mk (below_step (by repeat (first | (with_reducible first | exact HB.out | apply bA | apply bN | apply bD | refine bS ?_ GE213.out) | exact HB.out)) hb); have n2_ := Aside0.mk (hbox); have n3_ := Aside0.mk ((by rw [hg]; exact (below_size (by repeat (first | (with_reducible first | exact HB.out | apply bA | apply bN | apply bD | refine bS ?_ GE213.out) | exact HB.out))) : w.heap.size ≤ gb214)); have n4_ := Aside0.mk ((by rw [hg]; exact (below_size (by repeat (first | (with_reducible first | exact HB.out | apply bA | apply bN | apply bD | refine bS ?_ GE213.out) | exact HB.out))) : w.heap.size ≤ gb214)); have n5_ := Aside0.mk ((by rw [hg]; exact Nat.ne_of_lt (blk_lt (g := gb213) (o := .cells #[.int .i64 a0_0, .int .i64 a0_1, .int .i64 a0_2] 23 (0, 0)) (by (with_reducible repeat first | apply kN | apply kd | apply ka); exact BK213.out)) : gb213 ≠ gb214)); have n6_ := Aside0.mk ((by rw [hg]; exact Nat.ne_of_gt (blk_lt (g := gb213) (o := .cells #[.int .i64 a0_0, .int .i64 a0_1, .int .i64 a0_2] 23 (0, 0)) (by (with_reducible repeat first | apply kN | apply kd | apply ka); exact BK213.out)) : gb214 ≠ gb213)); clear BK213; clear HB; have BK213 := n0_; have HB := n1_; have BK214 := n2_; have GW214 := n3_; have GE214 := n4_; have NB213_214 := n5_; have NB214_213 := n6_; clear n0_ n1_ n2_ n3_ n4_ n5_ n6_; clear hb hbox hg))
   have n0_ := Aside0.mk (blk_drew BK213.out)
   have n1_ := Aside0.mk (blk_drew BK214.out)
   have n2_ := Aside0.mk (below_drew1 HB.out)
   clear BK213
   clear BK214
   clear HB
   have BK213 := n0_
   have BK214 := n1_
   have HB := n2_
   clear n0_ n1_ n2_
   refine start_ (n := 6) (S := fun w' => True) (ds := []) #[false, false, false, false, false, false] (by kernel_rfl) rfl rfl trivial (fun hHeld => ?_)
   generalize w7.drew = w8 at BK213 BK214 HB hHeld ⊢
   refine pure_ (i := 0) (N := some 9) (v := ?_) (a' := ?_) #[true, false, false, false, false, false] rfl rfl (by kernel_rfl) (fun _ _ _ h => h) (Or.inl ⟨by rfl, ?_⟩) ?_ ?_
   rotate_left
   ·intro w'
    go_simp
    with_reducible rfl
   rotate_left
   ·simp only [Act.put, List.setIfInBounds_toArray, List.set_cons_zero, List.set_cons_succ, i64_w, i32_w]
    rfl
   refine join_ (σ := Value × Value × Nat) 1 #[true, true, true, true, true, false] (fun s_ => [(10, s_.1), (11, s_.2.1), (6, .pointer (some ⟨s_.2.2, 0, none⟩)), (12, .agg #[.int .i64 a1, s_.1, s_.2.1])]) (fun s_ w' => (Kd.R (Kd.int .u8) 5 w' w.heap.size (fun k_ => some k_ ≠ (s_.2.1 : Value).ownBlock) s_.1 y215) ∧ (Kd.R (Kd.int .u8) 5 w' w.heap.size (fun k_ => some k_ ≠ (s_.1 : Value).ownBlock) s_.2.1 y218) ∧ (w'.heap[gb213]? = some (.cells #[.int .i64 a0_0, .int .i64 a0_1, .int .i64 a0_2] 23 (0, 0))) ∧ (w'.heap[gb214]? = some (.cells #[.int .i64 0, .slice none 0 0, .slice none 0 0] 31 (0, 0))) ∧ (w'.heap[s_.2.2]? = some (.cells #[.int .i64 0, .slice none 0 0, .slice none 0 0] 31 (0, 0))) ∧ (w.heap.size ≤ s_.2.2) ∧ (w.heap.size ≤ s_.2.2) ∧ (gb213 ≠ s_.2.2) ∧ (s_.2.2 ≠ gb213) ∧ (gb214 ≠ s_.2.2) ∧ (s_.2.2 ≠ gb214) ∧ (Below w.heap.size w w')) ?_ ?_
   rotate_left
   ·intro hJ1_2_4
    refine join_ (σ := Value × Value) 2 #[true, true, true, true, false, false] (fun s_ => [(10, s_.1), (11, s_.2), (12, .agg #[.int .i64 a1, s_.1, s_.2])]) (fun s_ w' => (Kd.R (Kd.int .u8) 5 w' w.heap.size (fun k_ => some k_ ≠ (s_.2 : Value).ownBlock) s_.1 y215) ∧ (Kd.R (Kd.int .u8) 5 w' w.heap.size (fun k_ => some k_ ≠ (s_.1 : Value).ownBlock) s_.2 y218) ∧ (w'.heap[gb213]? = some (.cells #[.int .i64 a0_0, .int .i64 a0_1, .int .i64 a0_2] 23 (0, 0))) ∧ (w'.heap[gb214]? = some (.cells #[.int .i64 0, .slice none 0 0, .slice none 0 0] 31 (0, 0))) ∧ (Below w.heap.size w w')) ?_ ?_
    rotate_left
    ·intro hJ1_2
     refine join_ (σ := Value × Nat) 3 #[true, true, false, false, true, false] (fun s_ => [(10, s_.1), (6, .pointer (some ⟨s_.2, 0, none⟩))]) (fun s_ w' => (Kd.R (Kd.int .u8) 5 w' w.heap.size (fun _ => True) s_.1 y215) ∧ (w'.heap[gb213]? = some (.cells #[.int .i64 a0_0, .int .i64 a0_1, .int .i64 a0_2] 23 (0, 0))) ∧ (w'.heap[gb214]? = some (.cells #[.int .i64 0, .slice none 0 0, .slice none 0 0] 31 (0, 0))) ∧ (w'.heap[s_.2]? = some (.cells #[.int .i64 0, .slice none 0 0, .slice none 0 0] 31 (0, 0))) ∧ (w.heap.size ≤ s_.2) ∧ (w.heap.size ≤ s_.2) ∧ (gb213 ≠ s_.2) ∧ (s_.2 ≠ gb213) ∧ (gb214 ≠ s_.2) ∧ (s_.2 ≠ gb214) ∧ (Below w.heap.size w w')) ?_ ?_
     rotate_left
     ·intro hJ1_4
      refine join_ (σ := Value × Nat) 3 #[true, false, true, false, true, false] (fun s_ => [(11, s_.1), (6, .pointer (some ⟨s_.2, 0, none⟩))]) (fun s_ w' => (Kd.R (Kd.int .u8) 5 w' w.heap.size (fun _ => True) s_.1 y218) ∧ (w'.heap[gb213]? = some (.cells #[.int .i64 a0_0, .int .i64 a0_1, .int .i64 a0_2] 23 (0, 0))) ∧ (w'.heap[gb214]? = some (.cells #[.int .i64 0, .slice none 0 0, .slice none 0 0] 31 (0, 0))) ∧ (w'.heap[s_.2]? = some (.cells #[.int .i64 0, .slice none 0 0, .slice none 0 0] 31 (0, 0))) ∧ (w.heap.size ≤ s_.2) ∧ (w.heap.size ≤ s_.2) ∧ (gb213 ≠ s_.2) ∧ (s_.2 ≠ gb213) ∧ (gb214 ≠ s_.2) ∧ (s_.2 ≠ gb214) ∧ (Below w.heap.size w w')) ?_ ?_
      rotate_left
      ·intro hJ2_4
       refine join_ (σ := Value) 4 #[true, true, false, false, false, false] (fun s_ => [(10, s_)]) (fun s_ w' => (Kd.R (Kd.int .u8) 5 w' w.heap.size (fun _ => True) s_ y215) ∧ (w'.heap[gb213]? = some (.cells #[.int .i64 a0_0, .int .i64 a0_1, .int .i64 a0_2] 23 (0, 0))) ∧ (w'.heap[gb214]? = some (.cells #[.int .i64 0, .slice none 0 0, .slice none 0 0] 31 (0, 0))) ∧ (Below w.heap.size w w')) ?_ ?_
       rotate_left
       ·intro hJ1
        refine join_ (σ := Value) 4 #[true, false, true, false, false, false] (fun s_ => [(11, s_)]) (fun s_ w' => (Kd.R (Kd.int .u8) 5 w' w.heap.size (fun _ => True) s_ y218) ∧ (w'.heap[gb213]? = some (.cells #[.int .i64 a0_0, .int .i64 a0_1, .int .i64 a0_2] 23 (0, 0))) ∧ (w'.heap[gb214]? = some (.cells #[.int .i64 0, .slice none 0 0, .slice none 0 0] 31 (0, 0))) ∧ (Below w.heap.size w w')) ?_ ?_
        rotate_left
        ·intro hJ2
         refine join_ (σ := Nat) 4 #[true, false, false, false, true, false] (fun s_ => [(6, .pointer (some ⟨s_, 0, none⟩))]) (fun s_ w' => (w'.heap[gb213]? = some (.cells #[.int .i64 a0_0, .int .i64 a0_1, .int .i64 a0_2] 23 (0, 0))) ∧ (w'.heap[gb214]? = some (.cells #[.int .i64 0, .slice none 0 0, .slice none 0 0] 31 (0, 0))) ∧ (w'.heap[s_]? = some (.cells #[.int .i64 0, .slice none 0 0, .slice none 0 0] 31 (0, 0))) ∧ (w.heap.size ≤ s_) ∧ (w.heap.size ≤ s_) ∧ (gb213 ≠ s_) ∧ (s_ ≠ gb213) ∧ (gb214 ≠ s_) ∧ (s_ ≠ gb214) ∧ (Below w.heap.size w w')) ?_ ?_
         rotate_left
         ·intro hJ4
          refine three_ (i := 1) (j := 2) (k := 4) (Ni := some 10) (Nj := some 11) (Nk := some 6) #[true, true, false, false, false, false] #[true, false, true, false, false, false] #[true, false, false, false, true, false] rfl rfl rfl rfl rfl rfl (by kernel_rfl) (by decide) (by decide) (by decide) (fun K hK => ?_) (fun K hK => ?_) (fun K hK => ?_)
          ·skip
           refine Kd.R_make_step (Kd.int .u8) _ 5 (by rfl) (N := 10) rfl 24 _ _ rfl 16 rfl rfl Try.underlying24 (.int .u8 0) 1 info5 rfl (by decide) (by omega) 0 (ok := fun _ => True) (okp := fun _ => True) rfl (fun _ hk => hk) trivial (by omega) (by omega) (Below.refl _ _) (Nat.le_refl _) ?_
           intro v216 w9 ho10 hb hg_ hnew_
           clear hg_ hnew_
           (first | rw [← Ny215.out] at ho10 | (simp only [Int.reduceToNat] at ho10; rw [← Ny215.out] at ho10))
           have n0_ := Aside0.mk (Kd.R_lower ho10 (below_size (by repeat (first | (with_reducible first | exact HB.out | apply bA | apply bN | apply bD | refine bS ?_ GE213.out | refine bS ?_ GE214.out) | exact HB.out))))
           have n1_ := Aside0.mk (blk_below (g := gb213) (o := .cells #[.int .i64 a0_0, .int .i64 a0_1, .int .i64 a0_2] 23 (0, 0)) (by (with_reducible repeat first | apply kN | apply kd | apply ka); exact BK213.out) hb)
           have n2_ := Aside0.mk (blk_below (g := gb214) (o := .cells #[.int .i64 0, .slice none 0 0, .slice none 0 0] 31 (0, 0)) (by (with_reducible repeat first | apply kN | apply kd | apply ka); exact BK214.out) hb)
           have n3_ := Aside0.mk (below_step (by repeat (first | (with_reducible first | exact HB.out | apply bA | apply bN | apply bD | refine bS ?_ GE213.out | refine bS ?_ GE214.out) | exact HB.out)) hb)
           clear BK213
           clear BK214
           clear HB
           have HO217 := n0_
           have BK213 := n1_
           have BK214 := n2_
           have HB := n3_
           clear n0_ n1_ n2_ n3_
           clear hb ho10
           refine hK.out _ _ trivial (fun hHeld => ?_)
           clear hK K
           refine norm_ (a' := ?_) ?_ ?_
           rotate_left
           ·show Act.put _ (some 10) _ = _
            simp only [Act.put, List.setIfInBounds_toArray, List.set_cons_zero, List.set_cons_succ, i64_w, i32_w]
            rfl
           exact norm_ (by first | (simp only [putAll, Act.put, List.setIfInBounds_toArray, List.set_cons_zero, List.set_cons_succ]; done) | (simp only [putAll, Act.put, List.setIfInBounds_toArray, List.set_cons_zero, List.set_cons_succ]; rfl)) (hJ1 (v216) _ ⟨(by (with_reducible repeat (first | apply Kd.R_alloc | apply Kd.R_drewN | apply Kd.R_drew)); exact HO217.out), (by (with_reducible repeat first | apply kN | apply kd | apply ka); exact BK213.out), (by (with_reducible repeat first | apply kN | apply kd | apply ka); exact BK214.out), (by repeat (first | (with_reducible first | exact HB.out | apply bA | apply bN | apply bD | refine bS ?_ GE213.out | refine bS ?_ GE214.out) | exact HB.out))⟩)
          ·skip
           refine Kd.R_make_step (Kd.int .u8) _ 5 (by rfl) (N := 11) rfl 24 _ _ rfl 8 rfl rfl Try.underlying24 (.int .u8 0) 1 info5 rfl (by decide) (by omega) 0 (ok := fun _ => True) (okp := fun _ => True) rfl (fun _ hk => hk) trivial (by omega) (by omega) (Below.refl _ _) (Nat.le_refl _) ?_
           intro v219 w9 ho10 hb hg_ hnew_
           clear hg_ hnew_
           (first | rw [← Ny218.out] at ho10 | (simp only [Int.reduceToNat] at ho10; rw [← Ny218.out] at ho10))
           have n0_ := Aside0.mk (Kd.R_lower ho10 (below_size (by repeat (first | (with_reducible first | exact HB.out | apply bA | apply bN | apply bD | refine bS ?_ GE213.out | refine bS ?_ GE214.out) | exact HB.out))))
           have n1_ := Aside0.mk (blk_below (g := gb213) (o := .cells #[.int .i64 a0_0, .int .i64 a0_1, .int .i64 a0_2] 23 (0, 0)) (by (with_reducible repeat first | apply kN | apply kd | apply ka); exact BK213.out) hb)
           have n2_ := Aside0.mk (blk_below (g := gb214) (o := .cells #[.int .i64 0, .slice none 0 0, .slice none 0 0] 31 (0, 0)) (by (with_reducible repeat first | apply kN | apply kd | apply ka); exact BK214.out) hb)
           have n3_ := Aside0.mk (below_step (by repeat (first | (with_reducible first | exact HB.out | apply bA | apply bN | apply bD | refine bS ?_ GE213.out | refine bS ?_ GE214.out) | exact HB.out)) hb)
           clear BK213
           clear BK214
           clear HB
           have HO220 := n0_
           have BK213 := n1_
           have BK214 := n2_
           have HB := n3_
           clear n0_ n1_ n2_ n3_
           clear hb ho10
           refine hK.out _ _ trivial (fun hHeld => ?_)
           clear hK K
           refine norm_ (a' := ?_) ?_ ?_
           rotate_left
           ·show Act.put _ (some 11) _ = _
            simp only [Act.put, List.setIfInBounds_toArray, List.set_cons_zero, List.set_cons_succ, i64_w, i32_w]
            rfl
           exact norm_ (by first | (simp only [putAll, Act.put, List.setIfInBounds_toArray, List.set_cons_zero, List.set_cons_succ]; done) | (simp only [putAll, Act.put, List.setIfInBounds_toArray, List.set_cons_zero, List.set_cons_succ]; rfl)) (hJ2 (v219) _ ⟨(by (with_reducible repeat (first | apply Kd.R_alloc | apply Kd.R_drewN | apply Kd.R_drew)); exact HO220.out), (by (with_reducible repeat first | apply kN | apply kd | apply ka); exact BK213.out), (by (with_reducible repeat first | apply kN | apply kd | apply ka); exact BK214.out), (by repeat (first | (with_reducible first | exact HB.out | apply bA | apply bN | apply bD | refine bS ?_ GE213.out | refine bS ?_ GE214.out) | exact HB.out))⟩)
          ·skip
           refine box_step ?hg (N := 6) ?hd (cs := #[.int .i64 0, .slice none 0 0, .slice none 0 0]) (t := 31) ?hr ?_; (case hd => rfl); (case hg => rfl); (case hr => first | (go_simp; done) | (go_simp; rfl))
           intro gb221 hg w9 hbox hb
           have n0_ := Aside0.mk (blk_below (g := gb213) (o := .cells #[.int .i64 a0_0, .int .i64 a0_1, .int .i64 a0_2] 23 (0, 0)) (by (with_reducible repeat first | apply kN | apply kd | apply ka); exact BK213.out) hb)
           have n1_ := Aside0.mk (blk_below (g := gb214) (o := .cells #[.int .i64 0, .slice none 0 0, .slice none 0 0] 31 (0, 0)) (by (with_reducible repeat first | apply kN | apply kd | apply ka); exact BK214.out) hb)
           have n2_ := Aside0.mk (below_step (by repeat (first | (with_reducible first | exact HB.out | apply bA | apply bN | apply bD | refine bS ?_ GE213.out | refine bS ?_ GE214.out) | exact HB.out)) hb)
           have n3_ := Aside0.mk (hbox)
           have n4_ := Aside0.mk ((by rw [hg]; exact (below_size (by repeat (first | (with_reducible first | exact HB.out | apply bA | apply bN | apply bD | refine bS ?_ GE213.out | refine bS ?_ GE214.out) | exact HB.out))) : w.heap.size ≤ gb221))
           have n5_ := Aside0.mk ((by rw [hg]; exact (below_size (by repeat (first | (with_reducible first | exact HB.out | apply bA | apply bN | apply bD | refine bS ?_ GE213.out | refine bS ?_ GE214.out) | exact HB.out))) : w.heap.size ≤ gb221))
           have n6_ := Aside0.mk ((by rw [hg]; exact Nat.ne_of_lt (blk_lt (g := gb213) (o := .cells #[.int .i64 a0_0, .int .i64 a0_1, .int .i64 a0_2] 23 (0, 0)) (by (with_reducible repeat first | apply kN | apply kd | apply ka); exact BK213.out)) : gb213 ≠ gb221))
           have n7_ := Aside0.mk ((by rw [hg]; exact Nat.ne_of_gt (blk_lt (g := gb213) (o := .cells #[.int .i64 a0_0, .int .i64 a0_1, .int .i64 a0_2] 23 (0, 0)) (by (with_reducible repeat first | apply kN | apply kd | apply ka); exact BK213.out)) : gb221 ≠ gb213))
           have n8_ := Aside0.mk ((by rw [hg]; exact Nat.ne_of_lt (blk_lt (g := gb214) (o := .cells #[.int .i64 0, .slice none 0 0, .slice none 0 0] 31 (0, 0)) (by (with_reducible repeat first | apply kN | apply kd | apply ka); exact BK214.out)) : gb214 ≠ gb221))
           have n9_ := Aside0.mk ((by rw [hg]; exact Nat.ne_of_gt (blk_lt (g := gb214) (o := .cells #[.int .i64 0, .slice none 0 0, .slice none 0 0] 31 (0, 0)) (by (with_reducible repeat first | apply kN | apply kd | apply ka); exact BK214.out)) : gb221 ≠ gb214))
           clear BK213
           clear BK214
           clear HB
           have BK213 := n0_
           have BK214 := n1_
           have HB := n2_
           have BK221 := n3_
           have GW221 := n4_
           have GE221 := n5_
           have NB213_221 := n6_
           have NB221_213 := n7_
           have NB214_221 := n8_
           have NB221_214 := n9_
           clear n0_ n1_ n2_ n3_ n4_ n5_ n6_ n7_ n8_ n9_
           clear hb hbox hg
           refine hK.out _ _ trivial (fun hHeld => ?_)
           clear hK K
           refine norm_ (a' := ?_) ?_ ?_
           rotate_left
           ·show Act.put _ (some 6) _ = _
            simp only [Act.put, List.setIfInBounds_toArray, List.set_cons_zero, List.set_cons_succ, i64_w, i32_w]
            rfl
           exact norm_ (by first | (simp only [putAll, Act.put, List.setIfInBounds_toArray, List.set_cons_zero, List.set_cons_succ]; done) | (simp only [putAll, Act.put, List.setIfInBounds_toArray, List.set_cons_zero, List.set_cons_succ]; rfl)) (hJ4 (gb221) _ ⟨(by (with_reducible repeat first | apply kN | apply kd | apply ka); exact BK213.out), (by (with_reducible repeat first | apply kN | apply kd | apply ka); exact BK214.out), (by (with_reducible repeat first | apply kN | apply kd | apply ka); exact BK221.out), GW221.out, GE221.out, NB213_221.out, NB221_213.out, NB214_221.out, NB221_214.out, (by repeat (first | (with_reducible first | exact HB.out | apply bA | apply bN | apply bD | refine bS ?_ GE213.out | refine bS ?_ GE214.out | refine bS ?_ GE221.out) | exact HB.out))⟩)
         ·skip
          rintro gb221 w10 ⟨h0_, h1_, h2_, h3_, h4_, h5_, h6_, h7_, h8_, h9_⟩
          have n0_ : Aside0 (w10.heap[gb213]? = some (.cells #[.int .i64 a0_0, .int .i64 a0_1, .int .i64 a0_2] 23 (0, 0))) := ⟨h0_⟩
          have n1_ : Aside0 (w10.heap[gb214]? = some (.cells #[.int .i64 0, .slice none 0 0, .slice none 0 0] 31 (0, 0))) := ⟨h1_⟩
          have n2_ : Aside0 (w10.heap[gb221]? = some (.cells #[.int .i64 0, .slice none 0 0, .slice none 0 0] 31 (0, 0))) := ⟨h2_⟩
          have n3_ : Aside0 (w.heap.size ≤ gb221) := ⟨h3_⟩
          have n4_ : Aside0 (w.heap.size ≤ gb221) := ⟨h4_⟩
          have n5_ : Aside0 (gb213 ≠ gb221) := ⟨h5_⟩
          have n6_ : Aside0 (gb221 ≠ gb213) := ⟨h6_⟩
          have n7_ : Aside0 (gb214 ≠ gb221) := ⟨h7_⟩
          have n8_ : Aside0 (gb221 ≠ gb214) := ⟨h8_⟩
          have n9_ : Aside0 (Below w.heap.size w w10) := ⟨h9_⟩
          clear BK213
          clear BK214
          clear HB
          clear h0_ h1_ h2_ h3_ h4_ h5_ h6_ h7_ h8_ h9_
          have BK213 := n0_
          have BK214 := n1_
          have BK221 := n2_
          have GW221 := n3_
          have GE221 := n4_
          have NB213_221 := n5_
          have NB221_213 := n6_
          have NB214_221 := n7_
          have NB221_214 := n8_
          have HB := n9_
          clear n0_ n1_ n2_ n3_ n4_ n5_ n6_ n7_ n8_ n9_
          have hHeld := trivial
          refine norm_ (a' := ?_) ?_ ?_
          rotate_left
          ·simp only [putAll, Act.put, List.setIfInBounds_toArray, List.set_cons_zero, List.set_cons_succ]
           rfl
          refine two_ (i := 1) (j := 2) (Ni := some 10) (Nj := some 11) #[true, true, false, false, true, false] #[true, false, true, false, true, false] rfl rfl rfl rfl (by kernel_rfl) (by decide) (by decide) (fun K hK => ?_) (fun K hK => ?_)
          ·skip
           refine Kd.R_make_step (Kd.int .u8) _ 5 (by rfl) (N := 10) rfl 24 _ _ rfl 16 rfl rfl Try.underlying24 (.int .u8 0) 1 info5 rfl (by decide) (by omega) 0 (ok := fun _ => True) (okp := fun _ => True) rfl (fun _ hk => hk) trivial (by omega) (by omega) (Below.refl _ _) (Nat.le_refl _) ?_
           intro v216 w11 ho12 hb hg_ hnew_
           clear hg_ hnew_
           (first | rw [← Ny215.out] at ho12 | (simp only [Int.reduceToNat] at ho12; rw [← Ny215.out] at ho12))
           have n0_ := Aside0.mk (Kd.R_lower ho12 (below_size (by repeat (first | (with_reducible first | exact HB.out | apply bA | apply bN | apply bD | refine bS ?_ GE213.out | refine bS ?_ GE214.out | refine bS ?_ GE221.out) | exact HB.out))))
           have n1_ := Aside0.mk (blk_below (g := gb213) (o := .cells #[.int .i64 a0_0, .int .i64 a0_1, .int .i64 a0_2] 23 (0, 0)) (by (with_reducible repeat first | apply kN | apply kd | apply ka); exact BK213.out) hb)
           have n2_ := Aside0.mk (blk_below (g := gb214) (o := .cells #[.int .i64 0, .slice none 0 0, .slice none 0 0] 31 (0, 0)) (by (with_reducible repeat first | apply kN | apply kd | apply ka); exact BK214.out) hb)
           have n3_ := Aside0.mk (blk_below (g := gb221) (o := .cells #[.int .i64 0, .slice none 0 0, .slice none 0 0] 31 (0, 0)) (by (with_reducible repeat first | apply kN | apply kd | apply ka); exact BK221.out) hb)
           have n4_ := Aside0.mk (below_step (by repeat (first | (with_reducible first | exact HB.out | apply bA | apply bN | apply bD | refine bS ?_ GE213.out | refine bS ?_ GE214.out | refine bS ?_ GE221.out) | exact HB.out)) hb)
           clear BK213
           clear BK214
           clear BK221
           clear HB
           have HO217 := n0_
           have BK213 := n1_
           have BK214 := n2_
           have BK221 := n3_
           have HB := n4_
           clear n0_ n1_ n2_ n3_ n4_
           clear hb ho12
           refine hK.out _ _ trivial (fun hHeld => ?_)
           clear hK K
           refine norm_ (a' := ?_) ?_ ?_
           rotate_left
           ·show Act.put _ (some 10) _ = _
            simp only [Act.put, List.setIfInBounds_toArray, List.set_cons_zero, List.set_cons_succ, i64_w, i32_w]
            rfl
           exact norm_ (by first | (simp only [putAll, Act.put, List.setIfInBounds_toArray, List.set_cons_zero, List.set_cons_succ]; done) | (simp only [putAll, Act.put, List.setIfInBounds_toArray, List.set_cons_zero, List.set_cons_succ]; rfl)) (hJ1_4 (v216, gb221) _ ⟨(by (with_reducible repeat (first | apply Kd.R_alloc | apply Kd.R_drewN | apply Kd.R_drew)); exact HO217.out), (by (with_reducible repeat first | apply kN | apply kd | apply ka); exact BK213.out), (by (with_reducible repeat first | apply kN | apply kd | apply ka); exact BK214.out), (by (with_reducible repeat first | apply kN | apply kd | apply ka); exact BK221.out), GW221.out, GE221.out, NB213_221.out, NB221_213.out, NB214_221.out, NB221_214.out, (by repeat (first | (with_reducible first | exact HB.out | apply bA | apply bN | apply bD | refine bS ?_ GE213.out | refine bS ?_ GE214.out | refine bS ?_ GE221.out) | exact HB.out))⟩)
          ·skip
           refine Kd.R_make_step (Kd.int .u8) _ 5 (by rfl) (N := 11) rfl 24 _ _ rfl 8 rfl rfl Try.underlying24 (.int .u8 0) 1 info5 rfl (by decide) (by omega) 0 (ok := fun _ => True) (okp := fun _ => True) rfl (fun _ hk => hk) trivial (by omega) (by omega) (Below.refl _ _) (Nat.le_refl _) ?_
           intro v219 w11 ho12 hb hg_ hnew_
           clear hg_ hnew_
           (first | rw [← Ny218.out] at ho12 | (simp only [Int.reduceToNat] at ho12; rw [← Ny218.out] at ho12))
           have n0_ := Aside0.mk (Kd.R_lower ho12 (below_size (by repeat (first | (with_reducible first | exact HB.out | apply bA | apply bN | apply bD | refine bS ?_ GE213.out | refine bS ?_ GE214.out | refine bS ?_ GE221.out) | exact HB.out))))
           have n1_ := Aside0.mk (blk_below (g := gb213) (o := .cells #[.int .i64 a0_0, .int .i64 a0_1, .int .i64 a0_2] 23 (0, 0)) (by (with_reducible repeat first | apply kN | apply kd | apply ka); exact BK213.out) hb)
           have n2_ := Aside0.mk (blk_below (g := gb214) (o := .cells #[.int .i64 0, .slice none 0 0, .slice none 0 0] 31 (0, 0)) (by (with_reducible repeat first | apply kN | apply kd | apply ka); exact BK214.out) hb)
           have n3_ := Aside0.mk (blk_below (g := gb221) (o := .cells #[.int .i64 0, .slice none 0 0, .slice none 0 0] 31 (0, 0)) (by (with_reducible repeat first | apply kN | apply kd | apply ka); exact BK221.out) hb)
           have n4_ := Aside0.mk (below_step (by repeat (first | (with_reducible first | exact HB.out | apply bA | apply bN | apply bD | refine bS ?_ GE213.out | refine bS ?_ GE214.out | refine bS ?_ GE221.out) | exact HB.out)) hb)
           clear BK213
           clear BK214
           clear BK221
           clear HB
           have HO220 := n0_
           have BK213 := n1_
           have BK214 := n2_
           have BK221 := n3_
           have HB := n4_
           clear n0_ n1_ n2_ n3_ n4_
           clear hb ho12
           refine hK.out _ _ trivial (fun hHeld => ?_)
           clear hK K
           refine norm_ (a' := ?_) ?_ ?_
           rotate_left
           ·show Act.put _ (some 11) _ = _
            simp only [Act.put, List.setIfInBounds_toArray, List.set_cons_zero, List.set_cons_succ, i64_w, i32_w]
            rfl
           exact norm_ (by first | (simp only [putAll, Act.put, List.setIfInBounds_toArray, List.set_cons_zero, List.set_cons_succ]; done) | (simp only [putAll, Act.put, List.setIfInBounds_toArray, List.set_cons_zero, List.set_cons_succ]; rfl)) (hJ2_4 (v219, gb221) _ ⟨(by (with_reducible repeat (first | apply Kd.R_alloc | apply Kd.R_drewN | apply Kd.R_drew)); exact HO220.out), (by (with_reducible repeat first | apply kN | apply kd | apply ka); exact BK213.out), (by (with_reducible repeat first | apply kN | apply kd | apply ka); exact BK214.out), (by (with_reducible repeat first | apply kN | apply kd | apply ka); exact BK221.out), GW221.out, GE221.out, NB213_221.out, NB221_213.out, NB214_221.out, NB221_214.out, (by repeat (first | (with_reducible first | exact HB.out | apply bA | apply bN | apply bD | refine bS ?_ GE213.out | refine bS ?_ GE214.out | refine bS ?_ GE221.out) | exact HB.out))⟩)
        ·skip
         rintro v219 w11 ⟨h0_, h1_, h2_, h3_⟩
         have n0_ : Aside0 (Kd.R (Kd.int .u8) 5 w11 w.heap.size (fun _ => True) v219 y218) := ⟨h0_⟩
         have n1_ : Aside0 (w11.heap[gb213]? = some (.cells #[.int .i64 a0_0, .int .i64 a0_1, .int .i64 a0_2] 23 (0, 0))) := ⟨h1_⟩
         have n2_ : Aside0 (w11.heap[gb214]? = some (.cells #[.int .i64 0, .slice none 0 0, .slice none 0 0] 31 (0, 0))) := ⟨h2_⟩
         have n3_ : Aside0 (Below w.heap.size w w11) := ⟨h3_⟩
         clear BK213
         clear BK214
         clear HB
         clear h0_ h1_ h2_ h3_
         have HO220 := n0_
         have BK213 := n1_
         have BK214 := n2_
         have HB := n3_
         clear n0_ n1_ n2_ n3_
         have hHeld := trivial
         refine norm_ (a' := ?_) ?_ ?_
         rotate_left
         ·simp only [putAll, Act.put, List.setIfInBounds_toArray, List.set_cons_zero, List.set_cons_succ]
          rfl
         refine two_ (i := 1) (j := 4) (Ni := some 10) (Nj := some 6) #[true, true, true, false, false, false] #[true, false, true, false, true, false] rfl rfl rfl rfl (by kernel_rfl) (by decide) (by decide) (fun K hK => ?_) (fun K hK => ?_)
         ·skip
          refine Kd.R_make_step (Kd.int .u8) _ 5 (by rfl) (N := 10) rfl 24 _ _ rfl 16 rfl rfl Try.underlying24 (.int .u8 0) 1 info5 rfl (by decide) (by omega) 0 (ok := fun _ => True) (okp := fun _ => True) rfl (fun _ hk => hk) trivial (by omega) (by omega) (Below.refl _ _) (Nat.le_refl _) ?_
          intro v216 w12 ho13 hb hg_ hnew_
          clear hg_ hnew_
          (first | rw [← Ny215.out] at ho13 | (simp only [Int.reduceToNat] at ho13; rw [← Ny215.out] at ho13))
          have n0_ := Aside0.mk (Kd.R_elder' (by (with_reducible repeat (first | apply Kd.R_alloc | apply Kd.R_drewN | apply Kd.R_drew)); exact HO220.out) (Kd.R_base ho13) hb)
          have n1_ := Aside0.mk (Kd.R_lower (Kd.R_new' ho13 (Kd.R_lt (by (with_reducible repeat (first | apply Kd.R_alloc | apply Kd.R_drewN | apply Kd.R_drew)); exact HO220.out))) (below_size (by repeat (first | (with_reducible first | exact HB.out | apply bA | apply bN | apply bD | refine bS ?_ GE213.out | refine bS ?_ GE214.out) | exact HB.out))))
          have n2_ := Aside0.mk (blk_below (g := gb213) (o := .cells #[.int .i64 a0_0, .int .i64 a0_1, .int .i64 a0_2] 23 (0, 0)) (by (with_reducible repeat first | apply kN | apply kd | apply ka); exact BK213.out) hb)
          have n3_ := Aside0.mk (blk_below (g := gb214) (o := .cells #[.int .i64 0, .slice none 0 0, .slice none 0 0] 31 (0, 0)) (by (with_reducible repeat first | apply kN | apply kd | apply ka); exact BK214.out) hb)
          have n4_ := Aside0.mk (below_step (by repeat (first | (with_reducible first | exact HB.out | apply bA | apply bN | apply bD | refine bS ?_ GE213.out | refine bS ?_ GE214.out) | exact HB.out)) hb)
          clear HO220
          clear BK213
          clear BK214
          clear HB
          have HO220 := n0_
          have HO217 := n1_
          have BK213 := n2_
          have BK214 := n3_
          have HB := n4_
          clear n0_ n1_ n2_ n3_ n4_
          clear hb ho13
          obtain ⟨Ao14, co14, eo14⟩ := Kd.R_slice HO220.out
          (first | subst eo14 | (injection eo14 with f1_ f2_ f3_; have f4_ := f1_.symm; have f5_ := f3_.symm; clear f1_ f2_ f3_; subst f4_; subst f5_))
          obtain ⟨Ao15, co15, eo15⟩ := Kd.R_slice HO217.out
          (first | subst eo15 | (injection eo15 with f1_ f2_ f3_; have f4_ := f1_.symm; have f5_ := f3_.symm; clear f1_ f2_ f3_; subst f4_; subst f5_))
          refine hK.out _ _ trivial (fun hHeld => ?_)
          clear hK K
          refine norm_ (a' := ?_) ?_ ?_
          rotate_left
          ·show Act.put _ (some 10) _ = _
           simp only [Act.put, List.setIfInBounds_toArray, List.set_cons_zero, List.set_cons_succ, i64_w, i32_w]
           rfl
          refine pure_ (i := 3) (N := some 12) (v := ?_) (a' := ?_) #[true, true, true, true, false, false] rfl rfl (by kernel_rfl) (fun _ _ _ h => h) (Or.inl ⟨by rfl, ?_⟩) ?_ ?_
          rotate_left
          ·intro w'
           go_simp
           with_reducible rfl
          rotate_left
          ·simp only [Act.put, List.setIfInBounds_toArray, List.set_cons_zero, List.set_cons_succ, i64_w, i32_w]
           rfl
          exact norm_ (by first | (simp only [putAll, Act.put, List.setIfInBounds_toArray, List.set_cons_zero, List.set_cons_succ]; done) | (simp only [putAll, Act.put, List.setIfInBounds_toArray, List.set_cons_zero, List.set_cons_succ]; rfl)) (hJ1_2 (.slice Ao15 y215.length co15, .slice Ao14 y218.length co14) _ ⟨(by (with_reducible repeat (first | apply Kd.R_alloc | apply Kd.R_drewN | apply Kd.R_drew)); exact Kd.R_mono HO217.out (fun _ hk => hk.2)), (by (with_reducible repeat (first | apply Kd.R_alloc | apply Kd.R_drewN | apply Kd.R_drew)); exact Kd.R_mono HO220.out (fun _ hk => hk.2)), (by (with_reducible repeat first | apply kN | apply kd | apply ka); exact BK213.out), (by (with_reducible repeat first | apply kN | apply kd | apply ka); exact BK214.out), (by repeat (first | (with_reducible first | exact HB.out | apply bA | apply bN | apply bD | refine bS ?_ GE213.out | refine bS ?_ GE214.out) | exact HB.out))⟩)
         ·skip
          refine box_step ?hg (N := 6) ?hd (cs := #[.int .i64 0, .slice none 0 0, .slice none 0 0]) (t := 31) ?hr ?_; (case hd => rfl); (case hg => rfl); (case hr => first | (go_simp; done) | (go_simp; rfl))
          intro gb221 hg w12 hbox hb
          have n0_ := Aside0.mk (Kd.R_below (by (with_reducible repeat (first | apply Kd.R_alloc | apply Kd.R_drewN | apply Kd.R_drew)); exact HO220.out) hb)
          have n1_ := Aside0.mk (blk_below (g := gb213) (o := .cells #[.int .i64 a0_0, .int .i64 a0_1, .int .i64 a0_2] 23 (0, 0)) (by (with_reducible repeat first | apply kN | apply kd | apply ka); exact BK213.out) hb)
          have n2_ := Aside0.mk (blk_below (g := gb214) (o := .cells #[.int .i64 0, .slice none 0 0, .slice none 0 0] 31 (0, 0)) (by (with_reducible repeat first | apply kN | apply kd | apply ka); exact BK214.out) hb)
          have n3_ := Aside0.mk (below_step (by repeat (first | (with_reducible first | exact HB.out | apply bA | apply bN | apply bD | refine bS ?_ GE213.out | refine bS ?_ GE214.out) | exact HB.out)) hb)
          have n4_ := Aside0.mk (hbox)
          have n5_ := Aside0.mk ((by rw [hg]; exact (below_size (by repeat (first | (with_reducible first | exact HB.out | apply bA | apply bN | apply bD | refine bS ?_ GE213.out | refine bS ?_ GE214.out) | exact HB.out))) : w.heap.size ≤ gb221))
          have n6_ := Aside0.mk ((by rw [hg]; exact (below_size (by repeat (first | (with_reducible first | exact HB.out | apply bA | apply bN | apply bD | refine bS ?_ GE213.out | refine bS ?_ GE214.out) | exact HB.out))) : w.heap.size ≤ gb221))
          have n7_ := Aside0.mk ((by rw [hg]; exact Nat.ne_of_lt (blk_lt (g := gb213) (o := .cells #[.int .i64 a0_0, .int .i64 a0_1, .int .i64 a0_2] 23 (0, 0)) (by (with_reducible repeat first | apply kN | apply kd | apply ka); exact BK213.out)) : gb213 ≠ gb221))
          have n8_ := Aside0.mk ((by rw [hg]; exact Nat.ne_of_gt (blk_lt (g := gb213) (o := .cells #[.int .i64 a0_0, .int .i64 a0_1, .int .i64 a0_2] 23 (0, 0)) (by (with_reducible repeat first | apply kN | apply kd | apply ka); exact BK213.out)) : gb221 ≠ gb213))
          have n9_ := Aside0.mk ((by rw [hg]; exact Nat.ne_of_lt (blk_lt (g := gb214) (o := .cells #[.int .i64 0, .slice none 0 0, .slice none 0 0] 31 (0, 0)) (by (with_reducible repeat first | apply kN | apply kd | apply ka); exact BK214.out)) : gb214 ≠ gb221))
          have n10_ := Aside0.mk ((by rw [hg]; exact Nat.ne_of_gt (blk_lt (g := gb214) (o := .cells #[.int .i64 0, .slice none 0 0, .slice none 0 0] 31 (0, 0)) (by (with_reducible repeat first | apply kN | apply kd | apply ka); exact BK214.out)) : gb221 ≠ gb214))
          clear HO220
          clear BK213
          clear BK214
          clear HB
          have HO220 := n0_
          have BK213 := n1_
          have BK214 := n2_
          have HB := n3_
          have BK221 := n4_
          have GW221 := n5_
          have GE221 := n6_
          have NB213_221 := n7_
          have NB221_213 := n8_
          have NB214_221 := n9_
          have NB221_214 := n10_
          clear n0_ n1_ n2_ n3_ n4_ n5_ n6_ n7_ n8_ n9_ n10_
          clear hb hbox hg
          refine hK.out _ _ trivial (fun hHeld => ?_)
          clear hK K
          refine norm_ (a' := ?_) ?_ ?_
          rotate_left
          ·show Act.put _ (some 6) _ = _
           simp only [Act.put, List.setIfInBounds_toArray, List.set_cons_zero, List.set_cons_succ, i64_w, i32_w]
           rfl
          exact norm_ (by first | (simp only [putAll, Act.put, List.setIfInBounds_toArray, List.set_cons_zero, List.set_cons_succ]; done) | (simp only [putAll, Act.put, List.setIfInBounds_toArray, List.set_cons_zero, List.set_cons_succ]; rfl)) (hJ2_4 (v219, gb221) _ ⟨(by (with_reducible repeat (first | apply Kd.R_alloc | apply Kd.R_drewN | apply Kd.R_drew)); exact HO220.out), (by (with_reducible repeat first | apply kN | apply kd | apply ka); exact BK213.out), (by (with_reducible repeat first | apply kN | apply kd | apply ka); exact BK214.out), (by (with_reducible repeat first | apply kN | apply kd | apply ka); exact BK221.out), GW221.out, GE221.out, NB213_221.out, NB221_213.out, NB214_221.out, NB221_214.out, (by repeat (first | (with_reducible first | exact HB.out | apply bA | apply bN | apply bD | refine bS ?_ GE213.out | refine bS ?_ GE214.out | refine bS ?_ GE221.out) | exact HB.out))⟩)
       ·skip
        rintro v216 w11 ⟨h0_, h1_, h2_, h3_⟩
        have n0_ : Aside0 (Kd.R (Kd.int .u8) 5 w11 w.heap.size (fun _ => True) v216 y215) := ⟨h0_⟩
        have n1_ : Aside0 (w11.heap[gb213]? = some (.cells #[.int .i64 a0_0, .int .i64 a0_1, .int .i64 a0_2] 23 (0, 0))) := ⟨h1_⟩
        have n2_ : Aside0 (w11.heap[gb214]? = some (.cells #[.int .i64 0, .slice none 0 0, .slice none 0 0] 31 (0, 0))) := ⟨h2_⟩
        have n3_ : Aside0 (Below w.heap.size w w11) := ⟨h3_⟩
        clear BK213
        clear BK214
        clear HB
        clear h0_ h1_ h2_ h3_
        have HO217 := n0_
        have BK213 := n1_
        have BK214 := n2_
        have HB := n3_
        clear n0_ n1_ n2_ n3_
        have hHeld := trivial
        refine norm_ (a' := ?_) ?_ ?_
        rotate_left
        ·simp only [putAll, Act.put, List.setIfInBounds_toArray, List.set_cons_zero, List.set_cons_succ]
         rfl
        refine two_ (i := 2) (j := 4) (Ni := some 11) (Nj := some 6) #[true, true, true, false, false, false] #[true, true, false, false, true, false] rfl rfl rfl rfl (by kernel_rfl) (by decide) (by decide) (fun K hK => ?_) (fun K hK => ?_)
        ·skip
         refine Kd.R_make_step (Kd.int .u8) _ 5 (by rfl) (N := 11) rfl 24 _ _ rfl 8 rfl rfl Try.underlying24 (.int .u8 0) 1 info5 rfl (by decide) (by omega) 0 (ok := fun _ => True) (okp := fun _ => True) rfl (fun _ hk => hk) trivial (by omega) (by omega) (Below.refl _ _) (Nat.le_refl _) ?_
         intro v219 w12 ho13 hb hg_ hnew_
         clear hg_ hnew_
         (first | rw [← Ny218.out] at ho13 | (simp only [Int.reduceToNat] at ho13; rw [← Ny218.out] at ho13))
         have n0_ := Aside0.mk (Kd.R_elder' (by (with_reducible repeat (first | apply Kd.R_alloc | apply Kd.R_drewN | apply Kd.R_drew)); exact HO217.out) (Kd.R_base ho13) hb)
         have n1_ := Aside0.mk (Kd.R_lower (Kd.R_new' ho13 (Kd.R_lt (by (with_reducible repeat (first | apply Kd.R_alloc | apply Kd.R_drewN | apply Kd.R_drew)); exact HO217.out))) (below_size (by repeat (first | (with_reducible first | exact HB.out | apply bA | apply bN | apply bD | refine bS ?_ GE213.out | refine bS ?_ GE214.out) | exact HB.out))))
         have n2_ := Aside0.mk (blk_below (g := gb213) (o := .cells #[.int .i64 a0_0, .int .i64 a0_1, .int .i64 a0_2] 23 (0, 0)) (by (with_reducible repeat first | apply kN | apply kd | apply ka); exact BK213.out) hb)
         have n3_ := Aside0.mk (blk_below (g := gb214) (o := .cells #[.int .i64 0, .slice none 0 0, .slice none 0 0] 31 (0, 0)) (by (with_reducible repeat first | apply kN | apply kd | apply ka); exact BK214.out) hb)
         have n4_ := Aside0.mk (below_step (by repeat (first | (with_reducible first | exact HB.out | apply bA | apply bN | apply bD | refine bS ?_ GE213.out | refine bS ?_ GE214.out) | exact HB.out)) hb)
         clear HO217
         clear BK213
         clear BK214
         clear HB
         have HO217 := n0_
         have HO220 := n1_
         have BK213 := n2_
         have BK214 := n3_
         have HB := n4_
         clear n0_ n1_ n2_ n3_ n4_
         clear hb ho13
         obtain ⟨Ao14, co14, eo14⟩ := Kd.R_slice HO220.out
         (first | subst eo14 | (injection eo14 with f1_ f2_ f3_; have f4_ := f1_.symm; have f5_ := f3_.symm; clear f1_ f2_ f3_; subst f4_; subst f5_))
         obtain ⟨Ao15, co15, eo15⟩ := Kd.R_slice HO217.out
         (first | subst eo15 | (injection eo15 with f1_ f2_ f3_; have f4_ := f1_.symm; have f5_ := f3_.symm; clear f1_ f2_ f3_; subst f4_; subst f5_))
         refine hK.out _ _ trivial (fun hHeld => ?_)
         clear hK K
         refine norm_ (a' := ?_) ?_ ?_
         rotate_left
         ·show Act.put _ (some 11) _ = _
          simp only [Act.put, List.setIfInBounds_toArray, List.set_cons_zero, List.set_cons_succ, i64_w, i32_w]
          rfl
         refine pure_ (i := 3) (N := some 12) (v := ?_) (a' := ?_) #[true, true, true, true, false, false] rfl rfl (by kernel_rfl) (fun _ _ _ h => h) (Or.inl ⟨by rfl, ?_⟩) ?_ ?_
         rotate_left
         ·intro w'
          go_simp
          with_reducible rfl
         rotate_left
         ·simp only [Act.put, List.setIfInBounds_toArray, List.set_cons_zero, List.set_cons_succ, i64_w, i32_w]
          rfl
         exact norm_ (by first | (simp only [putAll, Act.put, List.setIfInBounds_toArray, List.set_cons_zero, List.set_cons_succ]; done) | (simp only [putAll, Act.put, List.setIfInBounds_toArray, List.set_cons_zero, List.set_cons_succ]; rfl)) (hJ1_2 (.slice Ao15 y215.length co15, .slice Ao14 y218.length co14) _ ⟨(by (with_reducible repeat (first | apply Kd.R_alloc | apply Kd.R_drewN | apply Kd.R_drew)); exact Kd.R_mono HO217.out (fun _ hk => hk.2)), (by (with_reducible repeat (first | apply Kd.R_alloc | apply Kd.R_drewN | apply Kd.R_drew)); exact Kd.R_mono HO220.out (fun _ hk => hk.2)), (by (with_reducible repeat first | apply kN | apply kd | apply ka); exact BK213.out), (by (with_reducible repeat first | apply kN | apply kd | apply ka); exact BK214.out), (by repeat (first | (with_reducible first | exact HB.out | apply bA | apply bN | apply bD | refine bS ?_ GE213.out | refine bS ?_ GE214.out) | exact HB.out))⟩)
        ·skip
         refine box_step ?hg (N := 6) ?hd (cs := #[.int .i64 0, .slice none 0 0, .slice none 0 0]) (t := 31) ?hr ?_; (case hd => rfl); (case hg => rfl); (case hr => first | (go_simp; done) | (go_simp; rfl))
         intro gb221 hg w12 hbox hb
         have n0_ := Aside0.mk (Kd.R_below (by (with_reducible repeat (first | apply Kd.R_alloc | apply Kd.R_drewN | apply Kd.R_drew)); exact HO217.out) hb)
         have n1_ := Aside0.mk (blk_below (g := gb213) (o := .cells #[.int .i64 a0_0, .int .i64 a0_1, .int .i64 a0_2] 23 (0, 0)) (by (with_reducible repeat first | apply kN | apply kd | apply ka); exact BK213.out) hb)
         have n2_ := Aside0.mk (blk_below (g := gb214) (o := .cells #[.int .i64 0, .slice none 0 0, .slice none 0 0] 31 (0, 0)) (by (with_reducible repeat first | apply kN | apply kd | apply ka); exact BK214.out) hb)
         have n3_ := Aside0.mk (below_step (by repeat (first | (with_reducible first | exact HB.out | apply bA | apply bN | apply bD | refine bS ?_ GE213.out | refine bS ?_ GE214.out) | exact HB.out)) hb)
         have n4_ := Aside0.mk (hbox)
         have n5_ := Aside0.mk ((by rw [hg]; exact (below_size (by repeat (first | (with_reducible first | exact HB.out | apply bA | apply bN | apply bD | refine bS ?_ GE213.out | refine bS ?_ GE214.out) | exact HB.out))) : w.heap.size ≤ gb221))
         have n6_ := Aside0.mk ((by rw [hg]; exact (below_size (by repeat (first | (with_reducible first | exact HB.out | apply bA | apply bN | apply bD | refine bS ?_ GE213.out | refine bS ?_ GE214.out) | exact HB.out))) : w.heap.size ≤ gb221))
         have n7_ := Aside0.mk ((by rw [hg]; exact Nat.ne_of_lt (blk_lt (g := gb213) (o := .cells #[.int .i64 a0_0, .int .i64 a0_1, .int .i64 a0_2] 23 (0, 0)) (by (with_reducible repeat first | apply kN | apply kd | apply ka); exact BK213.out)) : gb213 ≠ gb221))
         have n8_ := Aside0.mk ((by rw [hg]; exact Nat.ne_of_gt (blk_lt (g := gb213) (o := .cells #[.int .i64 a0_0, .int .i64 a0_1, .int .i64 a0_2] 23 (0, 0)) (by (with_reducible repeat first | apply kN | apply kd | apply ka); exact BK213.out)) : gb221 ≠ gb213))
         have n9_ := Aside0.mk ((by rw [hg]; exact Nat.ne_of_lt (blk_lt (g := gb214) (o := .cells #[.int .i64 0, .slice none 0 0, .slice none 0 0] 31 (0, 0)) (by (with_reducible repeat first | apply kN | apply kd | apply ka); exact BK214.out)) : gb214 ≠ gb221))
         have n10_ := Aside0.mk ((by rw [hg]; exact Nat.ne_of_gt (blk_lt (g := gb214) (o := .cells #[.int .i64 0, .slice none 0 0, .slice none 0 0] 31 (0, 0)) (by (with_reducible repeat first | apply kN | apply kd | apply ka); exact BK214.out)) : gb221 ≠ gb214))
         clear HO217
         clear BK213
         clear BK214
         clear HB
         have HO217 := n0_
         have BK213 := n1_
         have BK214 := n2_
         have HB := n3_
         have BK221 := n4_
         have GW221 := n5_
         have GE221 := n6_
         have NB213_221 := n7_
         have NB221_213 := n8_
         have NB214_221 := n9_
         have NB221_214 := n10_
         clear n0_ n1_ n2_ n3_ n4_ n5_ n6_ n7_ n8_ n9_ n10_
         clear hb hbox hg
         refine hK.out _ _ trivial (fun hHeld => ?_)
         clear hK K
         refine norm_ (a' := ?_) ?_ ?_
         rotate_left
         ·show Act.put _ (some 6) _ = _
          simp only [Act.put, List.setIfInBounds_toArray, List.set_cons_zero, List.set_cons_succ, i64_w, i32_w]
          rfl
         exact norm_ (by first | (simp only [putAll, Act.put, List.setIfInBounds_toArray, List.set_cons_zero, List.set_cons_succ]; done) | (simp only [putAll, Act.put, List.setIfInBounds_toArray, List.set_cons_zero, List.set_cons_succ]; rfl)) (hJ1_4 (v216, gb221) _ ⟨(by (with_reducible repeat (first | apply Kd.R_alloc | apply Kd.R_drewN | apply Kd.R_drew)); exact HO217.out), (by (with_reducible repeat first | apply kN | apply kd | apply ka); exact BK213.out), (by (with_reducible repeat first | apply kN | apply kd | apply ka); exact BK214.out), (by (with_reducible repeat first | apply kN | apply kd | apply ka); exact BK221.out), GW221.out, GE221.out, NB213_221.out, NB221_213.out, NB214_221.out, NB221_214.out, (by repeat (first | (with_reducible first | exact HB.out | apply bA | apply bN | apply bD | refine bS ?_ GE213.out | refine bS ?_ GE214.out | refine bS ?_ GE221.out) | exact HB.out))⟩)
      ·skip
       rintro ⟨v219, gb221⟩ w12 ⟨h0_, h1_, h2_, h3_, h4_, h5_, h6_, h7_, h8_, h9_, h10_⟩
       have n0_ : Aside0 (Kd.R (Kd.int .u8) 5 w12 w.heap.size (fun _ => True) v219 y218) := ⟨h0_⟩
       have n1_ : Aside0 (w12.heap[gb213]? = some (.cells #[.int .i64 a0_0, .int .i64 a0_1, .int .i64 a0_2] 23 (0, 0))) := ⟨h1_⟩
       have n2_ : Aside0 (w12.heap[gb214]? = some (.cells #[.int .i64 0, .slice none 0 0, .slice none 0 0] 31 (0, 0))) := ⟨h2_⟩
       have n3_ : Aside0 (w12.heap[gb221]? = some (.cells #[.int .i64 0, .slice none 0 0, .slice none 0 0] 31 (0, 0))) := ⟨h3_⟩
       have n4_ : Aside0 (w.heap.size ≤ gb221) := ⟨h4_⟩
       have n5_ : Aside0 (w.heap.size ≤ gb221) := ⟨h5_⟩
       have n6_ : Aside0 (gb213 ≠ gb221) := ⟨h6_⟩
       have n7_ : Aside0 (gb221 ≠ gb213) := ⟨h7_⟩
       have n8_ : Aside0 (gb214 ≠ gb221) := ⟨h8_⟩
       have n9_ : Aside0 (gb221 ≠ gb214) := ⟨h9_⟩
       have n10_ : Aside0 (Below w.heap.size w w12) := ⟨h10_⟩
       clear BK213
       clear BK214
       clear HB
       clear h0_ h1_ h2_ h3_ h4_ h5_ h6_ h7_ h8_ h9_ h10_
       have HO220 := n0_
       have BK213 := n1_
       have BK214 := n2_
       have BK221 := n3_
       have GW221 := n4_
       have GE221 := n5_
       have NB213_221 := n6_
       have NB221_213 := n7_
       have NB214_221 := n8_
       have NB221_214 := n9_
       have HB := n10_
       clear n0_ n1_ n2_ n3_ n4_ n5_ n6_ n7_ n8_ n9_ n10_
       have hHeld := trivial
       refine norm_ (a' := ?_) ?_ ?_
       rotate_left
       ·simp only [putAll, Act.put, List.setIfInBounds_toArray, List.set_cons_zero, List.set_cons_succ]
        rfl
       refine one_ (i := 1) (N := some 10) #[true, true, true, false, true, false] rfl rfl (by kernel_rfl) (by decide) (fun K hK => ?_)
       refine Kd.R_make_step (Kd.int .u8) _ 5 (by rfl) (N := 10) rfl 24 _ _ rfl 16 rfl rfl Try.underlying24 (.int .u8 0) 1 info5 rfl (by decide) (by omega) 0 (ok := fun _ => True) (okp := fun _ => True) rfl (fun _ hk => hk) trivial (by omega) (by omega) (Below.refl _ _) (Nat.le_refl _) ?_
       intro v216 w13 ho14 hb hg_ hnew_
       clear hg_ hnew_
       (first | rw [← Ny215.out] at ho14 | (simp only [Int.reduceToNat] at ho14; rw [← Ny215.out] at ho14))
       have n0_ := Aside0.mk (Kd.R_elder' (by (with_reducible repeat (first | apply Kd.R_alloc | apply Kd.R_drewN | apply Kd.R_drew)); exact HO220.out) (Kd.R_base ho14) hb)
       have n1_ := Aside0.mk (Kd.R_lower (Kd.R_new' ho14 (Kd.R_lt (by (with_reducible repeat (first | apply Kd.R_alloc | apply Kd.R_drewN | apply Kd.R_drew)); exact HO220.out))) (below_size (by repeat (first | (with_reducible first | exact HB.out | apply bA | apply bN | apply bD | refine bS ?_ GE213.out | refine bS ?_ GE214.out | refine bS ?_ GE221.out) | exact HB.out))))
       have n2_ := Aside0.mk (blk_below (g := gb213) (o := .cells #[.int .i64 a0_0, .int .i64 a0_1, .int .i64 a0_2] 23 (0, 0)) (by (with_reducible repeat first | apply kN | apply kd | apply ka); exact BK213.out) hb)
       have n3_ := Aside0.mk (blk_below (g := gb214) (o := .cells #[.int .i64 0, .slice none 0 0, .slice none 0 0] 31 (0, 0)) (by (with_reducible repeat first | apply kN | apply kd | apply ka); exact BK214.out) hb)
       have n4_ := Aside0.mk (blk_below (g := gb221) (o := .cells #[.int .i64 0, .slice none 0 0, .slice none 0 0] 31 (0, 0)) (by (with_reducible repeat first | apply kN | apply kd | apply ka); exact BK221.out) hb)
       have n5_ := Aside0.mk (below_step (by repeat (first | (with_reducible first | exact HB.out | apply bA | apply bN | apply bD | refine bS ?_ GE213.out | refine bS ?_ GE214.out | refine bS ?_ GE221.out) | exact HB.out)) hb)
       clear HO220
       clear BK213
       clear BK214
       clear BK221
       clear HB
       have HO220 := n0_
       have HO217 := n1_
       have BK213 := n2_
       have BK214 := n3_
       have BK221 := n4_
       have HB := n5_
       clear n0_ n1_ n2_ n3_ n4_ n5_
       clear hb ho14
       obtain ⟨Ao15, co15, eo15⟩ := Kd.R_slice HO220.out
       (first | subst eo15 | (injection eo15 with f1_ f2_ f3_; have f4_ := f1_.symm; have f5_ := f3_.symm; clear f1_ f2_ f3_; subst f4_; subst f5_))
       obtain ⟨Ao16, co16, eo16⟩ := Kd.R_slice HO217.out
       (first | subst eo16 | (injection eo16 with f1_ f2_ f3_; have f4_ := f1_.symm; have f5_ := f3_.symm; clear f1_ f2_ f3_; subst f4_; subst f5_))
       refine hK.out _ _ trivial (fun hHeld => ?_)
       clear hK K
       refine norm_ (a' := ?_) ?_ ?_
       rotate_left
       ·show Act.put _ (some 10) _ = _
        simp only [Act.put, List.setIfInBounds_toArray, List.set_cons_zero, List.set_cons_succ, i64_w, i32_w]
        rfl
       refine pure_ (i := 3) (N := some 12) (v := ?_) (a' := ?_) #[true, true, true, true, true, false] rfl rfl (by kernel_rfl) (fun _ _ _ h => h) (Or.inl ⟨by rfl, ?_⟩) ?_ ?_
       rotate_left
       ·intro w'
        go_simp
        with_reducible rfl
       rotate_left
       ·simp only [Act.put, List.setIfInBounds_toArray, List.set_cons_zero, List.set_cons_succ, i64_w, i32_w]
        rfl
       exact norm_ (by first | (simp only [putAll, Act.put, List.setIfInBounds_toArray, List.set_cons_zero, List.set_cons_succ]; done) | (simp only [putAll, Act.put, List.setIfInBounds_toArray, List.set_cons_zero, List.set_cons_succ]; rfl)) (hJ1_2_4 (.slice Ao16 y215.length co16, .slice Ao15 y218.length co15, gb221) _ ⟨(by (with_reducible repeat (first | apply Kd.R_alloc | apply Kd.R_drewN | apply Kd.R_drew)); exact Kd.R_mono HO217.out (fun _ hk => hk.2)), (by (with_reducible repeat (first | apply Kd.R_alloc | apply Kd.R_drewN | apply Kd.R_drew)); exact Kd.R_mono HO220.out (fun _ hk => hk.2)), (by (with_reducible repeat first | apply kN | apply kd | apply ka); exact BK213.out), (by (with_reducible repeat first | apply kN | apply kd | apply ka); exact BK214.out), (by (with_reducible repeat first | apply kN | apply kd | apply ka); exact BK221.out), GW221.out, GE221.out, NB213_221.out, NB221_213.out, NB214_221.out, NB221_214.out, (by repeat (first | (with_reducible first | exact HB.out | apply bA | apply bN | apply bD | refine bS ?_ GE213.out | refine bS ?_ GE214.out | refine bS ?_ GE221.out) | exact HB.out))⟩)
     ·skip
      rintro ⟨v216, gb221⟩ w12 ⟨h0_, h1_, h2_, h3_, h4_, h5_, h6_, h7_, h8_, h9_, h10_⟩
      have n0_ : Aside0 (Kd.R (Kd.int .u8) 5 w12 w.heap.size (fun _ => True) v216 y215) := ⟨h0_⟩
      have n1_ : Aside0 (w12.heap[gb213]? = some (.cells #[.int .i64 a0_0, .int .i64 a0_1, .int .i64 a0_2] 23 (0, 0))) := ⟨h1_⟩
      have n2_ : Aside0 (w12.heap[gb214]? = some (.cells #[.int .i64 0, .slice none 0 0, .slice none 0 0] 31 (0, 0))) := ⟨h2_⟩
      have n3_ : Aside0 (w12.heap[gb221]? = some (.cells #[.int .i64 0, .slice none 0 0, .slice none 0 0] 31 (0, 0))) := ⟨h3_⟩
      have n4_ : Aside0 (w.heap.size ≤ gb221) := ⟨h4_⟩
      have n5_ : Aside0 (w.heap.size ≤ gb221) := ⟨h5_⟩
      have n6_ : Aside0 (gb213 ≠ gb221) := ⟨h6_⟩
      have n7_ : Aside0 (gb221 ≠ gb213) := ⟨h7_⟩
      have n8_ : Aside0 (gb214 ≠ gb221) := ⟨h8_⟩
      have n9_ : Aside0 (gb221 ≠ gb214) := ⟨h9_⟩
      have n10_ : Aside0 (Below w.heap.size w w12) := ⟨h10_⟩
      clear BK213
      clear BK214
      clear HB
      clear h0_ h1_ h2_ h3_ h4_ h5_ h6_ h7_ h8_ h9_ h10_
      have HO217 := n0_
      have BK213 := n1_
      have BK214 := n2_
      have BK221 := n3_
      have GW221 := n4_
      have GE221 := n5_
      have NB213_221 := n6_
      have NB221_213 := n7_
      have NB214_221 := n8_
      have NB221_214 := n9_
      have HB := n10_
      clear n0_ n1_ n2_ n3_ n4_ n5_ n6_ n7_ n8_ n9_ n10_
      have hHeld := trivial
      refine norm_ (a' := ?_) ?_ ?_
      rotate_left
      ·simp only [putAll, Act.put, List.setIfInBounds_toArray, List.set_cons_zero, List.set_cons_succ]
       rfl
      refine one_ (i := 2) (N := some 11) #[true, true, true, false, true, false] rfl rfl (by kernel_rfl) (by decide) (fun K hK => ?_)
      refine Kd.R_make_step (Kd.int .u8) _ 5 (by rfl) (N := 11) rfl 24 _ _ rfl 8 rfl rfl Try.underlying24 (.int .u8 0) 1 info5 rfl (by decide) (by omega) 0 (ok := fun _ => True) (okp := fun _ => True) rfl (fun _ hk => hk) trivial (by omega) (by omega) (Below.refl _ _) (Nat.le_refl _) ?_
      intro v219 w13 ho14 hb hg_ hnew_
      clear hg_ hnew_
      (first | rw [← Ny218.out] at ho14 | (simp only [Int.reduceToNat] at ho14; rw [← Ny218.out] at ho14))
      have n0_ := Aside0.mk (Kd.R_elder' (by (with_reducible repeat (first | apply Kd.R_alloc | apply Kd.R_drewN | apply Kd.R_drew)); exact HO217.out) (Kd.R_base ho14) hb)
      have n1_ := Aside0.mk (Kd.R_lower (Kd.R_new' ho14 (Kd.R_lt (by (with_reducible repeat (first | apply Kd.R_alloc | apply Kd.R_drewN | apply Kd.R_drew)); exact HO217.out))) (below_size (by repeat (first | (with_reducible first | exact HB.out | apply bA | apply bN | apply bD | refine bS ?_ GE213.out | refine bS ?_ GE214.out | refine bS ?_ GE221.out) | exact HB.out))))
      have n2_ := Aside0.mk (blk_below (g := gb213) (o := .cells #[.int .i64 a0_0, .int .i64 a0_1, .int .i64 a0_2] 23 (0, 0)) (by (with_reducible repeat first | apply kN | apply kd | apply ka); exact BK213.out) hb)
      have n3_ := Aside0.mk (blk_below (g := gb214) (o := .cells #[.int .i64 0, .slice none 0 0, .slice none 0 0] 31 (0, 0)) (by (with_reducible repeat first | apply kN | apply kd | apply ka); exact BK214.out) hb)
      have n4_ := Aside0.mk (blk_below (g := gb221) (o := .cells #[.int .i64 0, .slice none 0 0, .slice none 0 0] 31 (0, 0)) (by (with_reducible repeat first | apply kN | apply kd | apply ka); exact BK221.out) hb)
      have n5_ := Aside0.mk (below_step (by repeat (first | (with_reducible first | exact HB.out | apply bA | apply bN | apply bD | refine bS ?_ GE213.out | refine bS ?_ GE214.out | refine bS ?_ GE221.out) | exact HB.out)) hb)
      clear HO217
      clear BK213
      clear BK214
      clear BK221
      clear HB
      have HO217 := n0_
      have HO220 := n1_
      have BK213 := n2_
      have BK214 := n3_
      have BK221 := n4_
      have HB := n5_
      clear n0_ n1_ n2_ n3_ n4_ n5_
      clear hb ho14
      obtain ⟨Ao15, co15, eo15⟩ := Kd.R_slice HO220.out
      (first | subst eo15 | (injection eo15 with f1_ f2_ f3_; have f4_ := f1_.symm; have f5_ := f3_.symm; clear f1_ f2_ f3_; subst f4_; subst f5_))
      obtain ⟨Ao16, co16, eo16⟩ := Kd.R_slice HO217.out
      (first | subst eo16 | (injection eo16 with f1_ f2_ f3_; have f4_ := f1_.symm; have f5_ := f3_.symm; clear f1_ f2_ f3_; subst f4_; subst f5_))
      refine hK.out _ _ trivial (fun hHeld => ?_)
      clear hK K
      refine norm_ (a' := ?_) ?_ ?_
      rotate_left
      ·show Act.put _ (some 11) _ = _
       simp only [Act.put, List.setIfInBounds_toArray, List.set_cons_zero, List.set_cons_succ, i64_w, i32_w]
       rfl
      refine pure_ (i := 3) (N := some 12) (v := ?_) (a' := ?_) #[true, true, true, true, true, false] rfl rfl (by kernel_rfl) (fun _ _ _ h => h) (Or.inl ⟨by rfl, ?_⟩) ?_ ?_
      rotate_left
      ·intro w'
       go_simp
       with_reducible rfl
      rotate_left
      ·simp only [Act.put, List.setIfInBounds_toArray, List.set_cons_zero, List.set_cons_succ, i64_w, i32_w]
       rfl
      exact norm_ (by first | (simp only [putAll, Act.put, List.setIfInBounds_toArray, List.set_cons_zero, List.set_cons_succ]; done) | (simp only [putAll, Act.put, List.setIfInBounds_toArray, List.set_cons_zero, List.set_cons_succ]; rfl)) (hJ1_2_4 (.slice Ao16 y215.length co16, .slice Ao15 y218.length co15, gb221) _ ⟨(by (with_reducible repeat (first | apply Kd.R_alloc | apply Kd.R_drewN | apply Kd.R_drew)); exact Kd.R_mono HO217.out (fun _ hk => hk.2)), (by (with_reducible repeat (first | apply Kd.R_alloc | apply Kd.R_drewN | apply Kd.R_drew)); exact Kd.R_mono HO220.out (fun _ hk => hk.2)), (by (with_reducible repeat first | apply kN | apply kd | apply ka); exact BK213.out), (by (with_reducible repeat first | apply kN | apply kd | apply ka); exact BK214.out), (by (with_reducible repeat first | apply kN | apply kd | apply ka); exact BK221.out), GW221.out, GE221.out, NB213_221.out, NB221_213.out, NB214_221.out, NB221_214.out, (by repeat (first | (with_reducible first | exact HB.out | apply bA | apply bN | apply bD | refine bS ?_ GE213.out | refine bS ?_ GE214.out | refine bS ?_ GE221.out) | exact HB.out))⟩)
    ·skip
     rintro ⟨v216, v219⟩ w15 ⟨h0_, h1_, h2_, h3_, h4_⟩
     have n0_ : Aside0 (Kd.R (Kd.int .u8) 5 w15 w.heap.size (fun k_ => some k_ ≠ (v219 : Value).ownBlock) v216 y215) := ⟨h0_⟩
     have n1_ : Aside0 (Kd.R (Kd.int .u8) 5 w15 w.heap.size (fun k_ => some k_ ≠ (v216 : Value).ownBlock) v219 y218) := ⟨h1_⟩
     have n2_ : Aside0 (w15.heap[gb213]? = some (.cells #[.int .i64 a0_0, .int .i64 a0_1, .int .i64 a0_2] 23 (0, 0))) := ⟨h2_⟩
     have n3_ : Aside0 (w15.heap[gb214]? = some (.cells #[.int .i64 0, .slice none 0 0, .slice none 0 0] 31 (0, 0))) := ⟨h3_⟩
     have n4_ : Aside0 (Below w.heap.size w w15) := ⟨h4_⟩
     clear BK213
     clear BK214
     clear HB
     clear h0_ h1_ h2_ h3_ h4_
     have HO217 := n0_
     have HO220 := n1_
     have BK213 := n2_
     have BK214 := n3_
     have HB := n4_
     clear n0_ n1_ n2_ n3_ n4_
     have hHeld := trivial
     obtain ⟨Ao16, co16, eo16⟩ := Kd.R_slice HO220.out
     (first | subst eo16 | (injection eo16 with f1_ f2_ f3_; have f4_ := f1_.symm; have f5_ := f3_.symm; clear f1_ f2_ f3_; subst f4_; subst f5_))
     obtain ⟨Ao17, co17, eo17⟩ := Kd.R_slice HO217.out
     (first | subst eo17 | (injection eo17 with f1_ f2_ f3_; have f4_ := f1_.symm; have f5_ := f3_.symm; clear f1_ f2_ f3_; subst f4_; subst f5_))
     refine norm_ (a' := ?_) ?_ ?_
     rotate_left
     ·simp only [putAll, Act.put, List.setIfInBounds_toArray, List.set_cons_zero, List.set_cons_succ]
      rfl
     refine one_ (i := 4) (N := some 6) #[true, true, true, true, true, false] rfl rfl (by kernel_rfl) (by decide) (fun K hK => ?_)
     refine box_step ?hg (N := 6) ?hd (cs := #[.int .i64 0, .slice none 0 0, .slice none 0 0]) (t := 31) ?hr ?_; (case hd => rfl); (case hg => rfl); (case hr => first | (go_simp; done) | (go_simp; rfl))
     intro gb221 hg w18 hbox hb
     have n0_ := Aside0.mk (Kd.R_below (by (with_reducible repeat (first | apply Kd.R_alloc | apply Kd.R_drewN | apply Kd.R_drew)); exact HO217.out) hb)
     have n1_ := Aside0.mk (Kd.R_below (by (with_reducible repeat (first | apply Kd.R_alloc | apply Kd.R_drewN | apply Kd.R_drew)); exact HO220.out) hb)
     have n2_ := Aside0.mk (blk_below (g := gb213) (o := .cells #[.int .i64 a0_0, .int .i64 a0_1, .int .i64 a0_2] 23 (0, 0)) (by (with_reducible repeat first | apply kN | apply kd | apply ka); exact BK213.out) hb)
     have n3_ := Aside0.mk (blk_below (g := gb214) (o := .cells #[.int .i64 0, .slice none 0 0, .slice none 0 0] 31 (0, 0)) (by (with_reducible repeat first | apply kN | apply kd | apply ka); exact BK214.out) hb)
     have n4_ := Aside0.mk (below_step (by repeat (first | (with_reducible first | exact HB.out | apply bA | apply bN | apply bD | refine bS ?_ GE213.out | refine bS ?_ GE214.out) | exact HB.out)) hb)
     have n5_ := Aside0.mk (hbox)
     have n6_ := Aside0.mk ((by rw [hg]; exact (below_size (by repeat (first | (with_reducible first | exact HB.out | apply bA | apply bN | apply bD | refine bS ?_ GE213.out | refine bS ?_ GE214.out) | exact HB.out))) : w.heap.size ≤ gb221))
     have n7_ := Aside0.mk ((by rw [hg]; exact (below_size (by repeat (first | (with_reducible first | exact HB.out | apply bA | apply bN | apply bD | refine bS ?_ GE213.out | refine bS ?_ GE214.out) | exact HB.out))) : w.heap.size ≤ gb221))
     have n8_ := Aside0.mk ((by rw [hg]; exact Nat.ne_of_lt (blk_lt (g := gb213) (o := .cells #[.int .i64 a0_0, .int .i64 a0_1, .int .i64 a0_2] 23 (0, 0)) (by (with_reducible repeat first | apply kN | apply kd | apply ka); exact BK213.out)) : gb213 ≠ gb221))
     have n9_ := Aside0.mk ((by rw [hg]; exact Nat.ne_of_gt (blk_lt (g := gb213) (o := .cells #[.int .i64 a0_0, .int .i64 a0_1, .int .i64 a0_2] 23 (0, 0)) (by (with_reducible repeat first | apply kN | apply kd | apply ka); exact BK213.out)) : gb221 ≠ gb213))
     have n10_ := Aside0.mk ((by rw [hg]; exact Nat.ne_of_lt (blk_lt (g := gb214) (o := .cells #[.int .i64 0, .slice none 0 0, .slice none 0 0] 31 (0, 0)) (by (with_reducible repeat first | apply kN | apply kd | apply ka); exact BK214.out)) : gb214 ≠ gb221))
     have n11_ := Aside0.mk ((by rw [hg]; exact Nat.ne_of_gt (blk_lt (g := gb214) (o := .cells #[.int .i64 0, .slice none 0 0, .slice none 0 0] 31 (0, 0)) (by (with_reducible repeat first | apply kN | apply kd | apply ka); exact BK214.out)) : gb221 ≠ gb214))
     clear HO217
     clear HO220
     clear BK213
     clear BK214
     clear HB
     have HO217 := n0_
     have HO220 := n1_
     have BK213 := n2_
     have BK214 := n3_
     have HB := n4_
     have BK221 := n5_
     have GW221 := n6_
     have GE221 := n7_
     have NB213_221 := n8_
     have NB221_213 := n9_
     have NB214_221 := n10_
     have NB221_214 := n11_
     clear n0_ n1_ n2_ n3_ n4_ n5_ n6_ n7_ n8_ n9_ n10_ n11_
     clear hb hbox hg
     refine hK.out _ _ trivial (fun hHeld => ?_)
     clear hK K
     refine norm_ (a' := ?_) ?_ ?_
     rotate_left
     ·show Act.put _ (some 6) _ = _
      simp only [Act.put, List.setIfInBounds_toArray, List.set_cons_zero, List.set_cons_succ, i64_w, i32_w]
      rfl
     exact norm_ (by first | (simp only [putAll, Act.put, List.setIfInBounds_toArray, List.set_cons_zero, List.set_cons_succ]; done) | (simp only [putAll, Act.put, List.setIfInBounds_toArray, List.set_cons_zero, List.set_cons_succ]; rfl)) (hJ1_2_4 (.slice Ao17 y215.length co17, .slice Ao16 y218.length co16, gb221) _ ⟨(by (with_reducible repeat (first | apply Kd.R_alloc | apply Kd.R_drewN | apply Kd.R_drew)); exact HO217.out), (by (with_reducible repeat (first | apply Kd.R_alloc | apply Kd.R_drewN | apply Kd.R_drew)); exact HO220.out), (by (with_reducible repeat first | apply kN | apply kd | apply ka); exact BK213.out), (by (with_reducible repeat first | apply kN | apply kd | apply ka); exact BK214.out), (by (with_reducible repeat first | apply kN | apply kd | apply ka); exact BK221.out), GW221.out, GE221.out, NB213_221.out, NB221_213.out, NB214_221.out, NB221_214.out, (by repeat (first | (with_reducible first | exact HB.out | apply bA | apply bN | apply bD | refine bS ?_ GE213.out | refine bS ?_ GE214.out | refine bS ?_ GE221.out) | exact HB.out))⟩)
   rintro ⟨v216, v219, gb221⟩ w16 ⟨h0_, h1_, h2_, h3_, h4_, h5_, h6_, h7_, h8_, h9_, h10_, h11_⟩
   have n0_ : Aside0 (Kd.R (Kd.int .u8) 5 w16 w.heap.size (fun k_ => some k_ ≠ (v219 : Value).ownBlock) v216 y215) := ⟨h0_⟩
   have n1_ : Aside0 (Kd.R (Kd.int .u8) 5 w16 w.heap.size (fun k_ => some k_ ≠ (v216 : Value).ownBlock) v219 y218) := ⟨h1_⟩
   have n2_ : Aside0 (w16.heap[gb213]? = some (.cells #[.int .i64 a0_0, .int .i64 a0_1, .int .i64 a0_2] 23 (0, 0))) := ⟨h2_⟩
   have n3_ : Aside0 (w16.heap[gb214]? = some (.cells #[.int .i64 0, .slice none 0 0, .slice none 0 0] 31 (0, 0))) := ⟨h3_⟩
   have n4_ : Aside0 (w16.heap[gb221]? = some (.cells #[.int .i64 0, .slice none 0 0, .slice none 0 0] 31 (0, 0))) := ⟨h4_⟩
   have n5_ : Aside0 (w.heap.size ≤ gb221) := ⟨h5_⟩
   have n6_ : Aside0 (w.heap.size ≤ gb221) := ⟨h6_⟩
   have n7_ : Aside0 (gb213 ≠ gb221) := ⟨h7_⟩
   have n8_ : Aside0 (gb221 ≠ gb213) := ⟨h8_⟩
   have n9_ : Aside0 (gb214 ≠ gb221) := ⟨h9_⟩
   have n10_ : Aside0 (gb221 ≠ gb214) := ⟨h10_⟩
   have n11_ : Aside0 (Below w.heap.size w w16) := ⟨h11_⟩
   clear BK213
   clear BK214
   clear HB
   clear h0_ h1_ h2_ h3_ h4_ h5_ h6_ h7_ h8_ h9_ h10_ h11_
   have HO217 := n0_
   have HO220 := n1_
   have BK213 := n2_
   have BK214 := n3_
   have BK221 := n4_
   have GW221 := n5_
   have GE221 := n6_
   have NB213_221 := n7_
   have NB221_213 := n8_
   have NB214_221 := n9_
   have NB221_214 := n10_
   have HB := n11_
   clear n0_ n1_ n2_ n3_ n4_ n5_ n6_ n7_ n8_ n9_ n10_ n11_
   have hHeld := trivial
   obtain ⟨Ao17, co17, eo17⟩ := Kd.R_slice HO220.out
   (first | subst eo17 | (injection eo17 with f1_ f2_ f3_; have f4_ := f1_.symm; have f5_ := f3_.symm; clear f1_ f2_ f3_; subst f4_; subst f5_))
   obtain ⟨Ao18, co18, eo18⟩ := Kd.R_slice HO217.out
   (first | subst eo18 | (injection eo18 with f1_ f2_ f3_; have f4_ := f1_.symm; have f5_ := f3_.symm; clear f1_ f2_ f3_; subst f4_; subst f5_))
   refine norm_ (a' := ?_) ?_ ?_
   rotate_left
   ·simp only [putAll, Act.put, List.setIfInBounds_toArray, List.set_cons_zero, List.set_cons_succ]
    rfl
   refine one_ (i := 5) (N := none) #[true, true, true, true, true, true] rfl rfl (by kernel_rfl) (by decide) (fun K hK => ?_)
   have hs19 : w16.cell? ⟨gb221, 0, none⟩ = some (.int .i64 0) := (blk_cell BK221.out 0).trans rfl
   have hfs19 := blk_frozen BK221.out 0
   have hns19_0 := NB213_221.out
   have hns19_1 := NB214_221.out
   have hms19_0 := NB221_213.out
   have hms19_1 := NB221_214.out
   have hs20 : w16.cell? ⟨gb221, 1, none⟩ = some (.slice none 0 0) := (blk_cell BK221.out 1).trans rfl
   have hfs20 := blk_frozen BK221.out 1
   have hns20_0 := NB213_221.out
   have hns20_1 := NB214_221.out
   have hms20_0 := NB221_213.out
   have hms20_1 := NB221_214.out
   have hs21 : w16.cell? ⟨gb221, 2, none⟩ = some (.slice none 0 0) := (blk_cell BK221.out 2).trans rfl
   have hfs21 := blk_frozen BK221.out 2
   have hns21_0 := NB213_221.out
   have hns21_1 := NB214_221.out
   have hms21_0 := NB221_213.out
   have hms21_1 := NB221_214.out
   refine skip_ (w1 := ?_) (by rfl) rfl ?_ ?_
   rotate_left
   ·go_simp
    rfl
   refine hK.out _ _ trivial (fun hHeld => ?_)
   clear hK K
   refine done_ (by kernel_rfl) ?_
   go_upto_region 2 with (fail)
   go_cut [25] (fun v25 wc => ∃ (kq : Nat) (x25_4 : Bool), v25 = .bool x25_4 ∧ Aside0 (leveeref06_Fresh.j0 kq a1 x25_4 a0_0 a0_1 a0_2 a1 y215 y218 = some (r1, r2, r3, r4)) ∧ Aside0 (kq ≤ k) ∧ Aside0 (Kd.R (Kd.int .u8) 5 wc w.heap.size (fun k_ => some k_ ≠ ((.slice Ao17 y218.length co17) : Value).ownBlock) (.slice Ao18 y215.length co18) y215) ∧ Aside0 (Kd.R (Kd.int .u8) 5 wc w.heap.size (fun k_ => some k_ ≠ ((.slice Ao18 y215.length co18) : Value).ownBlock) (.slice Ao17 y218.length co17) y218) ∧ Aside0 (wc.heap[gb213]? = some (.cells #[.int .i64 a0_0, .int .i64 a0_1, .int .i64 a0_2] 23 (0, 0))) ∧ Aside0 (wc.heap[gb214]? = some (.cells #[.int .i64 0, (.slice none 0 0), (.slice none 0 0)] 31 (0, 0))) ∧ Aside0 (wc.heap[gb221]? = some (.cells #[.int .i64 a1, (.slice Ao18 y215.length co18), (.slice Ao17 y218.length co17)] 31 (0, 0))) ∧ Aside0 (Below w.heap.size w wc))
   case first =>
    have H := HC5.out
    clear HC5
    replace H := Option.bind_eq_some_iff.mp H
    obtain ⟨t222, A220, H⟩ := H
    replace H : (if t222 = true then (if a1 < 0 then (leveeref06_Fresh.j0 k a1 true a0_0 a0_1 a0_2 a1 y215 y218) else (leveeref06_Fresh.j0 k a1 (decide (a1 ≥ a0_2)) a0_0 a0_1 a0_2 a1 y215 y218)) else (leveeref06_Fresh.j0 k a1 true a0_0 a0_1 a0_2 a1 y215 y218)) = some (r1, r2, r3, r4) := H
    have A22 := Aside0.mk A220
    clear A220
    by_cases c23 : t222 = true
    ·subst c23
     have H1 : (if a1 < 0 then (leveeref06_Fresh.j0 k a1 true a0_0 a0_1 a0_2 a1 y215 y218) else (leveeref06_Fresh.j0 k a1 (decide (a1 ≥ a0_2)) a0_0 a0_1 a0_2 a1 y215 y218)) = some (r1, r2, r3, r4) := by rw [if_pos rfl] at H; exact H
     clear H
     have H := H1
     clear H1
     by_cases c24 : a1 < 0
     ·rw [if_pos c24] at H
      have c24b0 : decide (a1 < 0) = true := decide_eq_true c24
      clear c24
      (first | rw [c24b0] | (simp only [i64_w, i32_w]; rw [c24b0]) | skip)
      have H' := Aside0.mk H
      clear H
      have hnb25 := NB213_214.out
      have hnc25 := NB214_213.out
      have hnb26 := NB213_221.out
      have hnc26 := NB221_213.out
      have q_ := cells3 BK213.out; have hcz27_0 := q_.c0; have hcz27_1 := q_.c1; have hcz27_2 := q_.c2; have hfz27_0 := q_.f0; have hfz27_1 := q_.f1; have hfz27_2 := q_.f2; clear q_
      go_wp2_with (first | ((with_reducible refine gate_callee (f := 30) rfl ?_); refine goesL_ (some 14) rfl rfl Try.func30 (by kernel_rfl) rfl #[.agg #[.int .i64 a0_0, .int .i64 a0_1, .int .i64 a0_2]] rfl (by (try simp only [List.map_toArray, List.map_cons, List.map_nil]); first | done | rfl | (simp only [List.length_drop, List.length_take]; rfl)) ?_; (with_reducible refine (leveeref03_Right.calls a0_0 a0_1 a0_2 true _ A22.out).mono ?_); rintro e w28 ⟨rfl, hb⟩; refine ⟨_, rfl, ?_⟩; have n0_ := Aside0.mk (Kd.R_below (by (with_reducible repeat (first | apply Kd.R_alloc | apply Kd.R_drewN | apply Kd.R_drew)); exact (Kd.R_mono (Kd.R_far (p := ⟨gb221, 2, none⟩) (Kd.R_far (p := ⟨gb221, 1, none⟩) (Kd.R_far (p := ⟨gb221, 0, none⟩) (Kd.R_types HO217.out BK221.out (by decide)) (fun _ hk => hk.2) (.int .i64 a1)) (fun _ hk => hk.2) (.slice Ao18 y215.length co18)) (fun _ hk => hk.2) (.slice Ao17 y218.length co17)) (fun _ h_ => h_.1))) hb); have n1_ := Aside0.mk (Kd.R_below (by (with_reducible repeat (first | apply Kd.R_alloc | apply Kd.R_drewN | apply Kd.R_drew)); exact (Kd.R_mono (Kd.R_far (p := ⟨gb221, 2, none⟩) (Kd.R_far (p := ⟨gb221, 1, none⟩) (Kd.R_far (p := ⟨gb221, 0, none⟩) (Kd.R_types HO220.out BK221.out (by decide)) (fun _ hk => hk.2) (.int .i64 a1)) (fun _ hk => hk.2) (.slice Ao18 y215.length co18)) (fun _ hk => hk.2) (.slice Ao17 y218.length co17)) (fun _ h_ => h_.1))) hb); have n2_ := Aside0.mk (blk_below (g := gb213) (o := .cells #[.int .i64 a0_0, .int .i64 a0_1, .int .i64 a0_2] 23 (0, 0)) (by (with_reducible repeat first | apply kN | apply kd | apply ka); refine blk_far ?_ NB213_221.out _; (with_reducible repeat first | apply kN | apply kd | apply ka); refine blk_far ?_ NB213_221.out _; (with_reducible repeat first | apply kN | apply kd | apply ka); refine blk_far ?_ NB213_221.out _; (with_reducible repeat first | apply kN | apply kd | apply ka); exact BK213.out) hb); have n3_ := Aside0.mk (blk_below (g := gb214) (o := .cells #[.int .i64 0, .slice none 0 0, .slice none 0 0] 31 (0, 0)) (by (with_reducible repeat first | apply kN | apply kd | apply ka); refine blk_far ?_ NB214_221.out _; (with_reducible repeat first | apply kN | apply kd | apply ka); refine blk_far ?_ NB214_221.out _; (with_reducible repeat first | apply kN | apply kd | apply ka); refine blk_far ?_ NB214_221.out _; (with_reducible repeat first | apply kN | apply kd | apply ka); exact BK214.out) hb); have n4_ := Aside0.mk (blk_below (g := gb221) (o := .cells #[.int .i64 a1, .slice Ao18 y215.length co18, .slice Ao17 y218.length co17] 31 (0, 0)) (by (with_reducible repeat first | apply kN | apply kd | apply ka); refine blk_put (cs := #[.int .i64 a1, .slice Ao18 y215.length co18, .slice none 0 0]) ?_ 2 _ rfl; (with_reducible repeat first | apply kN | apply kd | apply ka); refine blk_put (cs := #[.int .i64 a1, .slice none 0 0, .slice none 0 0]) ?_ 1 _ rfl; (with_reducible repeat first | apply kN | apply kd | apply ka); refine blk_put (cs := #[.int .i64 0, .slice none 0 0, .slice none 0 0]) ?_ 0 _ rfl; (with_reducible repeat first | apply kN | apply kd | apply ka); exact BK221.out) hb); have n5_ := Aside0.mk (below_step (by repeat (first | (with_reducible first | exact HB.out | apply bA | apply bN | apply bD | refine bS ?_ GE213.out | refine bS ?_ GE214.out | refine bS ?_ GE221.out) | exact HB.out)) hb); clear HO217; clear HO220; clear BK213; clear BK214; clear BK221; clear HB; have HO217 := n0_; have HO220 := n1_; have BK213 := n2_; have BK214 := n3_; have BK221 := n4_; have HB := n5_; clear n0_ n1_ n2_ n3_ n4_ n5_; (try clear hb); (try clear hb2); (try clear hk); (try clear hi)))
      go_meet
      case rel => exact ⟨_, (true), (by first | rfl | (simp; done) | (simp [*]; done)), H', ⟨by first | omega | exact Nat.le_refl _⟩, ⟨by (with_reducible repeat (first | apply Kd.R_alloc | apply Kd.R_drewN | apply Kd.R_drew)); exact HO217.out⟩, ⟨by (with_reducible repeat (first | apply Kd.R_alloc | apply Kd.R_drewN | apply Kd.R_drew)); exact HO220.out⟩, ⟨by (with_reducible repeat first | apply kN | apply kd | apply ka); exact BK213.out⟩, ⟨by (with_reducible repeat first | apply kN | apply kd | apply ka); exact BK214.out⟩, ⟨by (with_reducible repeat first | apply kN | apply kd | apply ka); exact BK221.out⟩, ⟨by repeat (first | (with_reducible first | exact HB.out | apply bA | apply bN | apply bD | refine bS ?_ GE213.out | refine bS ?_ GE214.out | refine bS ?_ GE221.out) | exact HB.out)⟩⟩
     ·rw [if_neg c24] at H
      have c24b0 : decide (a1 < 0) = false := decide_eq_false c24
      clear c24
      (first | rw [c24b0] | (simp only [i64_w, i32_w]; rw [c24b0]) | skip)
      have H' := Aside0.mk H
      clear H
      have hnb29 := NB213_214.out
      have hnc29 := NB214_213.out
      have hnb30 := NB213_221.out
      have hnc30 := NB221_213.out
      have q_ := cells3 BK213.out; have hcz31_0 := q_.c0; have hcz31_1 := q_.c1; have hcz31_2 := q_.c2; have hfz31_0 := q_.f0; have hfz31_1 := q_.f1; have hfz31_2 := q_.f2; clear q_
      go_wp2_with (first | ((with_reducible refine gate_callee (f := 30) rfl ?_); refine goesL_ (some 14) rfl rfl Try.func30 (by kernel_rfl) rfl #[.agg #[.int .i64 a0_0, .int .i64 a0_1, .int .i64 a0_2]] rfl (by (try simp only [List.map_toArray, List.map_cons, List.map_nil]); first | done | rfl | (simp only [List.length_drop, List.length_take]; rfl)) ?_; (with_reducible refine (leveeref03_Right.calls a0_0 a0_1 a0_2 true _ A22.out).mono ?_); rintro e w32 ⟨rfl, hb⟩; refine ⟨_, rfl, ?_⟩; have n0_ := Aside0.mk (Kd.R_below (by (with_reducible repeat (first | apply Kd.R_alloc | apply Kd.R_drewN | apply Kd.R_drew)); exact (Kd.R_mono (Kd.R_far (p := ⟨gb221, 2, none⟩) (Kd.R_far (p := ⟨gb221, 1, none⟩) (Kd.R_far (p := ⟨gb221, 0, none⟩) (Kd.R_types HO217.out BK221.out (by decide)) (fun _ hk => hk.2) (.int .i64 a1)) (fun _ hk => hk.2) (.slice Ao18 y215.length co18)) (fun _ hk => hk.2) (.slice Ao17 y218.length co17)) (fun _ h_ => h_.1))) hb); have n1_ := Aside0.mk (Kd.R_below (by (with_reducible repeat (first | apply Kd.R_alloc | apply Kd.R_drewN | apply Kd.R_drew)); exact (Kd.R_mono (Kd.R_far (p := ⟨gb221, 2, none⟩) (Kd.R_far (p := ⟨gb221, 1, none⟩) (Kd.R_far (p := ⟨gb221, 0, none⟩) (Kd.R_types HO220.out BK221.out (by decide)) (fun _ hk => hk.2) (.int .i64 a1)) (fun _ hk => hk.2) (.slice Ao18 y215.length co18)) (fun _ hk => hk.2) (.slice Ao17 y218.length co17)) (fun _ h_ => h_.1))) hb); have n2_ := Aside0.mk (blk_below (g := gb213) (o := .cells #[.int .i64 a0_0, .int .i64 a0_1, .int .i64 a0_2] 23 (0, 0)) (by (with_reducible repeat first | apply kN | apply kd | apply ka); refine blk_far ?_ NB213_221.out _; (with_reducible repeat first | apply kN | apply kd | apply ka); refine blk_far ?_ NB213_221.out _; (with_reducible repeat first | apply kN | apply kd | apply ka); refine blk_far ?_ NB213_221.out _; (with_reducible repeat first | apply kN | apply kd | apply ka); exact BK213.out) hb); have n3_ := Aside0.mk (blk_below (g := gb214) (o := .cells #[.int .i64 0, .slice none 0 0, .slice none 0 0] 31 (0, 0)) (by (with_reducible repeat first | apply kN | apply kd | apply ka); refine blk_far ?_ NB214_221.out _; (with_reducible repeat first | apply kN | apply kd | apply ka); refine blk_far ?_ NB214_221.out _; (with_reducible repeat first | apply kN | apply kd | apply ka); refine blk_far ?_ NB214_221.out _; (with_reducible repeat first | apply kN | apply kd | apply ka); exact BK214.out) hb); have n4_ := Aside0.mk (blk_below (g := gb221) (o := .cells #[.int .i64 a1, .slice Ao18 y215.length co18, .slice Ao17 y218.length co17] 31 (0, 0)) (by (with_reducible repeat first | apply kN | apply kd | apply ka); refine blk_put (cs := #[.int .i64 a1, .slice Ao18 y215.length co18, .slice none 0 0]) ?_ 2 _ rfl; (with_reducible repeat first | apply kN | apply kd | apply ka); refine blk_put (cs := #[.int .i64 a1, .slice none 0 0, .slice none 0 0]) ?_ 1 _ rfl; (with_reducible repeat first | apply kN | apply kd | apply ka); refine blk_put (cs := #[.int .i64 0, .slice none 0 0, .slice none 0 0]) ?_ 0 _ rfl; (with_reducible repeat first | apply kN | apply kd | apply ka); exact BK221.out) hb); have n5_ := Aside0.mk (below_step (by repeat (first | (with_reducible first | exact HB.out | apply bA | apply bN | apply bD | refine bS ?_ GE213.out | refine bS ?_ GE214.out | refine bS ?_ GE221.out) | exact HB.out)) hb); clear HO217; clear HO220; clear BK213; clear BK214; clear BK221; clear HB; have HO217 := n0_; have HO220 := n1_; have BK213 := n2_; have BK214 := n3_; have BK221 := n4_; have HB := n5_; clear n0_ n1_ n2_ n3_ n4_ n5_; (try clear hb); (try clear hb2); (try clear hk); (try clear hi); have q_ := cells3 BK213.out; have hcz33_0 := q_.c0; have hcz33_1 := q_.c1; have hcz33_2 := q_.c2; have hfz33_0 := q_.f0; have hfz33_1 := q_.f1; have hfz33_2 := q_.f2; clear q_))
      go_meet
      case rel => exact ⟨_, (decide (a1 ≥ a0_2)), (by first | rfl | (simp; done) | (simp [*]; done)), H', ⟨by first | omega | exact Nat.le_refl _⟩, ⟨by (with_reducible repeat (first | apply Kd.R_alloc | apply Kd.R_drewN | apply Kd.R_drew)); exact HO217.out⟩, ⟨by (with_reducible repeat (first | apply Kd.R_alloc | apply Kd.R_drewN | apply Kd.R_drew)); exact HO220.out⟩, ⟨by (with_reducible repeat first | apply kN | apply kd | apply ka); exact BK213.out⟩, ⟨by (with_reducible repeat first | apply kN | apply kd | apply ka); exact BK214.out⟩, ⟨by (with_reducible repeat first | apply kN | apply kd | apply ka); exact BK221.out⟩, ⟨by repeat (first | (with_reducible first | exact HB.out | apply bA | apply bN | apply bD | refine bS ?_ GE213.out | refine bS ?_ GE214.out | refine bS ?_ GE221.out) | exact HB.out)⟩⟩
    ·replace c23 := Bool.eq_false_iff.mpr c23
     subst c23
     have H1 : (leveeref06_Fresh.j0 k a1 true a0_0 a0_1 a0_2 a1 y215 y218) = some (r1, r2, r3, r4) := by rw [if_neg (show ¬ (false = true) by decide)] at H; exact H
     clear H
     have H := H1
     clear H1
     have H' := Aside0.mk H
     clear H
     have hnb34 := NB213_214.out
     have hnc34 := NB214_213.out
     have hnb35 := NB213_221.out
     have hnc35 := NB221_213.out
     have q_ := cells3 BK213.out; have hcz36_0 := q_.c0; have hcz36_1 := q_.c1; have hcz36_2 := q_.c2; have hfz36_0 := q_.f0; have hfz36_1 := q_.f1; have hfz36_2 := q_.f2; clear q_
     go_wp2_with (first | ((with_reducible refine gate_callee (f := 30) rfl ?_); refine goesL_ (some 14) rfl rfl Try.func30 (by kernel_rfl) rfl #[.agg #[.int .i64 a0_0, .int .i64 a0_1, .int .i64 a0_2]] rfl (by (try simp only [List.map_toArray, List.map_cons, List.map_nil]); first | done | rfl | (simp only [List.length_drop, List.length_take]; rfl)) ?_; (with_reducible refine (leveeref03_Right.calls a0_0 a0_1 a0_2 false _ A22.out).mono ?_); rintro e w37 ⟨rfl, hb⟩; refine ⟨_, rfl, ?_⟩; have n0_ := Aside0.mk (Kd.R_below (by (with_reducible repeat (first | apply Kd.R_alloc | apply Kd.R_drewN | apply Kd.R_drew)); exact (Kd.R_mono (Kd.R_far (p := ⟨gb221, 2, none⟩) (Kd.R_far (p := ⟨gb221, 1, none⟩) (Kd.R_far (p := ⟨gb221, 0, none⟩) (Kd.R_types HO217.out BK221.out (by decide)) (fun _ hk => hk.2) (.int .i64 a1)) (fun _ hk => hk.2) (.slice Ao18 y215.length co18)) (fun _ hk => hk.2) (.slice Ao17 y218.length co17)) (fun _ h_ => h_.1))) hb); have n1_ := Aside0.mk (Kd.R_below (by (with_reducible repeat (first | apply Kd.R_alloc | apply Kd.R_drewN | apply Kd.R_drew)); exact (Kd.R_mono (Kd.R_far (p := ⟨gb221, 2, none⟩) (Kd.R_far (p := ⟨gb221, 1, none⟩) (Kd.R_far (p := ⟨gb221, 0, none⟩) (Kd.R_types HO220.out BK221.out (by decide)) (fun _ hk => hk.2) (.int .i64 a1)) (fun _ hk => hk.2) (.slice Ao18 y215.length co18)) (fun _ hk => hk.2) (.slice Ao17 y218.length co17)) (fun _ h_ => h_.1))) hb); have n2_ := Aside0.mk (blk_below (g := gb213) (o := .cells #[.int .i64 a0_0, .int .i64 a0_1, .int .i64 a0_2] 23 (0, 0)) (by (with_reducible repeat first | apply kN | apply kd | apply ka); refine blk_far ?_ NB213_221.out _; (with_reducible repeat first | apply kN | apply kd | apply ka); refine blk_far ?_ NB213_221.out _; (with_reducible repeat first | apply kN | apply kd | apply ka); refine blk_far ?_ NB213_221.out _; (with_reducible repeat first | apply kN | apply kd | apply ka); exact BK213.out) hb); have n3_ := Aside0.mk (blk_below (g := gb214) (o := .cells #[.int .i64 0, .slice none 0 0, .slice none 0 0] 31 (0, 0)) (by (with_reducible repeat first | apply kN | apply kd | apply ka); refine blk_far ?_ NB214_221.out _; (with_reducible repeat first | apply kN | apply kd | apply ka); refine blk_far ?_ NB214_221.out _; (with_reducible repeat first | apply kN | apply kd | apply ka); refine blk_far ?_ NB214_221.out _; (with_reducible repeat first | apply kN | apply kd | apply ka); exact BK214.out) hb); have n4_ := Aside0.mk (blk_below (g := gb221) (o := .cells #[.int .i64 a1, .slice Ao18 y215.length co18, .slice Ao17 y218.length co17] 31 (0, 0)) (by (with_reducible repeat first | apply kN | apply kd | apply ka); refine blk_put (cs := #[.int .i64 a1, .slice Ao18 y215.length co18, .slice none 0 0]) ?_ 2 _ rfl; (with_reducible repeat first | apply kN | apply kd | apply ka); refine blk_put (cs := #[.int .i64 a1, .slice none 0 0, .slice none 0 0]) ?_ 1 _ rfl; (with_reducible repeat first | apply kN | apply kd | apply ka); refine blk_put (cs := #[.int .i64 0, .slice none 0 0, .slice none 0 0]) ?_ 0 _ rfl; (with_reducible repeat first | apply kN | apply kd | apply ka); exact BK221.out) hb); have n5_ := Aside0.mk (below_step (by repeat (first | (with_reducible first | exact HB.out | apply bA | apply bN | apply bD | refine bS ?_ GE213.out | refine bS ?_ GE214.out | refine bS ?_ GE221.out) | exact HB.out)) hb); clear HO217; clear HO220; clear BK213; clear BK214; clear BK221; clear HB; have HO217 := n0_; have HO220 := n1_; have BK213 := n2_; have BK214 := n3_; have BK221 := n4_; have HB := n5_; clear n0_ n1_ n2_ n3_ n4_ n5_; (try clear hb); (try clear hb2); (try clear hk); (try clear hi)))
     go_meet
     case rel => exact ⟨_, (true), (by first | rfl | (simp; done) | (simp [*]; done)), H', ⟨by first | omega | exact Nat.le_refl _⟩, ⟨by (with_reducible repeat (first | apply Kd.R_alloc | apply Kd.R_drewN | apply Kd.R_drew)); exact HO217.out⟩, ⟨by (with_reducible repeat (first | apply Kd.R_alloc | apply Kd.R_drewN | apply Kd.R_drew)); exact HO220.out⟩, ⟨by (with_reducible repeat first | apply kN | apply kd | apply ka); exact BK213.out⟩, ⟨by (with_reducible repeat first | apply kN | apply kd | apply ka); exact BK214.out⟩, ⟨by (with_reducible repeat first | apply kN | apply kd | apply ka); exact BK221.out⟩, ⟨by repeat (first | (with_reducible first | exact HB.out | apply bA | apply bN | apply bD | refine bS ?_ GE213.out | refine bS ?_ GE214.out | refine bS ?_ GE221.out) | exact HB.out)⟩⟩
   case rest =>
    clear HC5
    try clear c2
    try clear p2
    try clear c3
    try clear c23
    try clear c24
    try clear c24b0
    try clear c25
    try clear c26
    try clear c29
    try clear c30
    try clear c34
    try clear c35
    try clear hcz27_0 hcz27_1 hcz27_2
    try clear hcz31_0 hcz31_1 hcz31_2
    try clear hcz33_0 hcz33_1 hcz33_2
    try clear hcz36_0 hcz36_1 hcz36_2
    try clear hfz27_0 hfz27_1 hfz27_2
    try clear hfz31_0 hfz31_1 hfz31_2
    try clear hfz33_0 hfz33_1 hfz33_2
    try clear hfz36_0 hfz36_1 hfz36_2
    obtain ⟨kq, x25_4, rfl, HA, HJ4, HO_222001, HO_222002, BK213, BK214, BK221, HB⟩ := hcut
    cases kq with
    | zero => exact absurd HA.out (by simp [leveeref06_Fresh.j0])
    | succ kj4 =>
     have H := HA.out
     clear HA
     simp only [leveeref06_Fresh.j0] at H
     by_cases c38 : x25_4 = true
     ·subst c38
      have H1 : (some (0, ([] : List Int), ([] : List Int), 1)) = some (r1, r2, r3, r4) := by rw [if_pos rfl] at H; exact H
      clear H
      have H := H1
      clear H1
      simp only [Option.some.injEq, Prod.mk.injEq] at H
      obtain ⟨rfl, rfl, rfl, rfl⟩ := H
      have hnb39 := NB214_213.out
      have hnc39 := NB213_214.out
      have hnb40 := NB214_221.out
      have hnc40 := NB221_214.out
      have q_ := cells3 BK214.out; have hcz41_0 := q_.c0; have hcz41_1 := q_.c1; have hcz41_2 := q_.c2; have hfz41_0 := q_.f0; have hfz41_1 := q_.f1; have hfz41_2 := q_.f2; clear q_
      go_wp2
      refine bodyPost_ret (results_ct rfl _ _ gb214 31 #[.int .i64 0, .slice none 0 0, .slice none 0 0] (0, 0) _ rfl (by (with_reducible repeat first | apply kN | apply kd | apply ka); refine blk_put (cs := #[.int .i64 0, .slice none 0 0, .slice none 0 0]) ?_ 2 _ rfl; (with_reducible repeat first | apply kN | apply kd | apply ka); refine blk_put (cs := #[.int .i64 0, .slice none 0 0, .slice none 0 0]) ?_ 1 _ rfl; (with_reducible repeat first | apply kN | apply kd | apply ka); refine blk_put (cs := #[.int .i64 0, .slice none 0 0, .slice none 0 0]) ?_ 0 _ rfl; (with_reducible repeat first | apply kN | apply kd | apply ka); exact BK214.out) Try.underlying31 rfl (by kernel_rfl)) rfl ?_
      exact ⟨_, _, by first | rfl | (simp [errW_none, errW_some] <;> rfl) | (simp [*, errW_none, errW_some] <;> rfl), by first | exact Kd.R_nil _ _ _ _ _ | exact Kd.N_nil _ _ _ _ _ | exact Kd.V_nil _ _ _ _ _ | exact Kd.Q_nil _ _ _ _ _ | exact Kd.S_nil _ _ _ _ _, by first | exact Kd.R_nil _ _ _ _ _ | exact Kd.N_nil _ _ _ _ _ | exact Kd.V_nil _ _ _ _ _ | exact Kd.Q_nil _ _ _ _ _ | exact Kd.S_nil _ _ _ _ _, by repeat (first | (with_reducible first | exact HB.out | apply bA | apply bN | apply bD | refine bS ?_ GE213.out | refine bS ?_ GE214.out | refine bS ?_ GE221.out) | exact HB.out)⟩
     ·replace c38 := Bool.eq_false_iff.mpr c38
      subst c38
      have H1 : (leveeref06_Fresh.l0 kj4 a1 0 a0_0 a0_1 a0_2 a1 y215 y218) = some (r1, r2, r3, r4) := by rw [if_neg (show ¬ (false = true) by decide)] at H; exact H
      clear H
      have H := H1
      clear H1
      have H' := Aside0.mk H
      clear H
      go_wp2
      go_loopg [7] kj4 (fun kq v7 w' => ∃ (x7_2 : Int) (x222001_2 : List Int) (u222001 : Value), v7 = .int .i64 x7_2 ∧ Aside0 (leveeref06_Fresh.l0 kq a1 x7_2 a0_0 a0_1 a0_2 a1 x222001_2 y218 = some (r1, r2, r3, r4)) ∧ Aside0 (kq ≤ kj4) ∧ Aside0 (Kd.R (Kd.int .u8) 5 w' w.heap.size (fun k_ => some k_ ≠ ((.slice Ao17 y218.length co17) : Value).ownBlock) u222001 x222001_2) ∧ Aside0 (Kd.R (Kd.int .u8) 5 w' w.heap.size (fun k_ => some k_ ≠ (u222001 : Value).ownBlock) (.slice Ao17 y218.length co17) y218) ∧ Aside0 (w'.heap[gb213]? = some (.cells #[.int .i64 a0_0, .int .i64 a0_1, .int .i64 a0_2] 23 (0, 0))) ∧ Aside0 (w'.heap[gb214]? = some (.cells #[.int .i64 0, (.slice none 0 0), (.slice none 0 0)] 31 (0, 0))) ∧ Aside0 (w'.heap[gb221]? = some (.cells #[.int .i64 a1, u222001, (.slice Ao17 y218.length co17)] 31 (0, 0))) ∧ Aside0 (Below w.heap.size w w'))
      case atStart => exact ⟨(0), (y215), (.slice Ao18 y215.length co18), (by first | rfl | (simp; done) | (simp [*]; done)), H', ⟨Nat.le_refl _⟩, ⟨by (with_reducible repeat (first | apply Kd.R_alloc | apply Kd.R_drewN | apply Kd.R_drew)); exact HO_222001.out⟩, ⟨by (with_reducible repeat (first | apply Kd.R_alloc | apply Kd.R_drewN | apply Kd.R_drew)); exact HO_222002.out⟩, ⟨by (with_reducible repeat first | apply kN | apply kd | apply ka); exact BK213.out⟩, ⟨by (with_reducible repeat first | apply kN | apply kd | apply ka); exact BK214.out⟩, ⟨by (with_reducible repeat first | apply kN | apply kd | apply ka); exact BK221.out⟩, ⟨by repeat (first | (with_reducible first | exact HB.out | apply bA | apply bN | apply bD | refine bS ?_ GE213.out | refine bS ?_ GE214.out | refine bS ?_ GE221.out) | exact HB.out)⟩⟩
      case round =>
       clear H'
       try clear c2
       try clear p2
       try clear c3
       try clear c4
       try clear c23
       try clear c24
       try clear c24b0
       try clear c25
       try clear c26
       try clear c29
       try clear c30
       try clear c34
       try clear c35
       try clear c38
       try clear c39
       try clear c40
       try clear hcz27_0 hcz27_1 hcz27_2
       try clear hcz31_0 hcz31_1 hcz31_2
       try clear hcz33_0 hcz33_1 hcz33_2
       try clear hcz36_0 hcz36_1 hcz36_2
       try clear hcz41_0 hcz41_1 hcz41_2
       try clear hfz27_0 hfz27_1 hfz27_2
       try clear hfz31_0 hfz31_1 hfz31_2
       try clear hfz33_0 hfz33_1 hfz33_2
       try clear hfz36_0 hfz36_1 hfz36_2
       try clear hfz41_0 hfz41_1 hfz41_2
       try clear p2
       obtain ⟨x7_2, x222001_2, u222001, rfl, HA, HK2, HO_222001, HO_222002, BK213, BK214, BK221, HB⟩ := hrel
       cases gk with
       | zero => exact absurd HA.out (by intro h0_; cases h0_)
       | succ k2 =>
        have H := HA.out
        clear HA
        simp only [leveeref06_Fresh.l0] at H
        by_cases c42 : x7_2 < (wrap64 (1 + (wrap64 (Int.tdiv a0_1 4))))
        ·rw [if_pos c42] at H
         have c42b0 : decide (x7_2 < (wrap64 (1 + (wrap64 (Int.tdiv a0_1 4))))) = true := decide_eq_true c42
         clear c42
         replace H := Option.bind_eq_some_iff.mp H
         obtain ⟨⟨t223, t224⟩, A430, H⟩ := H
         replace H : (leveeref06_Fresh.l0 k2 a1 (wrap64 (x7_2 + 1)) a0_0 a0_1 a0_2 a1 t223 y218) = some (r1, r2, r3, r4) := H
         have A43 := Aside0.mk A430
         clear A430
         have H' := Aside0.mk H
         clear H
         have hnb44 := NB213_214.out
         have hnc44 := NB214_213.out
         have hnb45 := NB213_221.out
         have hnc45 := NB221_213.out
         have q_ := cells3 BK213.out; have hcz46_0 := q_.c0; have hcz46_1 := q_.c1; have hcz46_2 := q_.c2; have hfz46_0 := q_.f0; have hfz46_1 := q_.f1; have hfz46_2 := q_.f2; clear q_
         have hnb47 := NB221_214.out
         have hnc47 := NB214_221.out
         have q_ := cells3 BK221.out; have hcz48_0 := q_.c0; have hcz48_1 := q_.c1; have hcz48_2 := q_.c2; have hfz48_0 := q_.f0; have hfz48_1 := q_.f1; have hfz48_2 := q_.f2; clear q_
         obtain ⟨Ao49, co49, eo49⟩ := Kd.R_slice HO_222001.out
         subst eo49
         go_wp2_with (first | ((with_reducible refine gate_callee (f := 39) rfl ?_); refine goesL_ (some 39) rfl rfl Try.func39 (by kernel_rfl) rfl #[.slice Ao49 x222001_2.length co49, .int .i64 x7_2, .bool true] rfl (by (try simp only [List.map_toArray, List.map_cons, List.map_nil]); first | done | rfl | (simp only [List.length_drop, List.length_take]; rfl)) ?_; (with_reducible refine (leveeref05_Set.calls k2 _ _ x222001_2 x7_2 true t223 t224 _ ?side1 ?side2 A43.out).mono ?_); (case side1 => repeat (first | exact (Kd.R_reads' HO_222001.out).2.2 | (with_reducible refine Kd.C_alloc ?_ _) | (with_reducible refine Kd.C_drewN ?_ _) | (with_reducible refine Kd.C_drew ?_))); (case side2 => exact (Kd.R_reads' HO_222001.out).2.1); rintro e w50 ⟨v225, rfl, ho0, hb⟩; refine ⟨_, rfl, ?_⟩; have n0_ := Aside0.mk (Kd.R_elder' (by (with_reducible repeat (first | apply Kd.R_alloc | apply Kd.R_drewN | apply Kd.R_drew)); exact HO_222001.out) (Kd.R_base ho0) hb); have n1_ := Aside0.mk (Kd.R_elder' (by (with_reducible repeat (first | apply Kd.R_alloc | apply Kd.R_drewN | apply Kd.R_drew)); exact HO_222002.out) (Kd.R_base ho0) hb); have n2_ := Aside0.mk (Kd.R_lower (Kd.R_new' (Kd.R_new' ho0 (Kd.R_lt (by (with_reducible repeat (first | apply Kd.R_alloc | apply Kd.R_drewN | apply Kd.R_drew)); exact HO_222001.out))) (Kd.R_lt (by (with_reducible repeat (first | apply Kd.R_alloc | apply Kd.R_drewN | apply Kd.R_drew)); exact HO_222002.out))) (below_size (by repeat (first | (with_reducible first | exact HB.out | apply bA | apply bN | apply bD | refine bS ?_ GE213.out | refine bS ?_ GE214.out | refine bS ?_ GE221.out) | exact HB.out)))); have n3_ := Aside0.mk (blk_below (g := gb213) (o := .cells #[.int .i64 a0_0, .int .i64 a0_1, .int .i64 a0_2] 23 (0, 0)) (by (with_reducible repeat first | apply kN | apply kd | apply ka); exact BK213.out) hb); have n4_ := Aside0.mk (blk_below (g := gb214) (o := .cells #[.int .i64 0, .slice none 0 0, .slice none 0 0] 31 (0, 0)) (by (with_reducible repeat first | apply kN | apply kd | apply ka); exact BK214.out) hb); have n5_ := Aside0.mk (blk_below (g := gb221) (o := .cells #[.int .i64 a1, .slice Ao49 x222001_2.length co49, .slice Ao17 y218.length co17] 31 (0, 0)) (by (with_reducible repeat first | apply kN | apply kd | apply ka); exact BK221.out) hb); have n6_ := Aside0.mk (below_step (by repeat (first | (with_reducible first | exact HB.out | apply bA | apply bN | apply bD | refine bS ?_ GE213.out | refine bS ?_ GE214.out | refine bS ?_ GE221.out) | exact HB.out)) hb); clear HO_222001; clear HO_222002; clear BK213; clear BK214; clear BK221; clear HB; have HO_222001 := n0_; have HO_222002 := n1_; have HO226 := n2_; have BK213 := n3_; have BK214 := n4_; have BK221 := n5_; have HB := n6_; clear n0_ n1_ n2_ n3_ n4_ n5_ n6_; (try clear hb); (try clear hb2); (try clear hk); (try clear hi); (try clear ho0); obtain ⟨Ao51, co51, eo51⟩ := Kd.R_slice HO226.out; subst eo51; have q_ := cells3 BK221.out; have hcz52_0 := q_.c0; have hcz52_1 := q_.c1; have hcz52_2 := q_.c2; have hfz52_0 := q_.f0; have hfz52_1 := q_.f1; have hfz52_2 := q_.f2; clear q_))
         go_roundg k2
         case measure => have := HJ4.out; have := HK2.out; omega
         case rel => exact ⟨(wrap64 (x7_2 + 1)), (t223), (.slice Ao51 t223.length co51), (by first | rfl | (simp; done) | (simp [*]; done)), H', ⟨by have := HJ4.out; have := HK2.out; omega⟩, ⟨by (with_reducible repeat (first | apply Kd.R_alloc | apply Kd.R_drewN | apply Kd.R_drew)); exact Kd.R_mono (Kd.R_far (p := ⟨gb221, 1, none⟩) (Kd.R_types HO226.out BK221.out (by decide)) (fun _ hk => hk.2) (.slice Ao51 t223.length co51)) (fun _ hk => hk.1.2)⟩, ⟨by (with_reducible repeat (first | apply Kd.R_alloc | apply Kd.R_drewN | apply Kd.R_drew)); exact Kd.R_mono (Kd.R_far (p := ⟨gb221, 1, none⟩) (Kd.R_types HO_222002.out BK221.out (by decide)) (fun _ hk => hk.2) (.slice Ao51 t223.length co51)) (fun _ hk => hk.1.2)⟩, ⟨by (with_reducible repeat first | apply kN | apply kd | apply ka); refine blk_far ?_ NB213_221.out _; (with_reducible repeat first | apply kN | apply kd | apply ka); exact BK213.out⟩, ⟨by (with_reducible repeat first | apply kN | apply kd | apply ka); refine blk_far ?_ NB214_221.out _; (with_reducible repeat first | apply kN | apply kd | apply ka); exact BK214.out⟩, ⟨by (with_reducible repeat first | apply kN | apply kd | apply ka); refine blk_put (cs := #[.int .i64 a1, .slice Ao49 x222001_2.length co49, .slice Ao17 y218.length co17]) ?_ 1 _ rfl; (with_reducible repeat first | apply kN | apply kd | apply ka); exact BK221.out⟩, ⟨by repeat (first | (with_reducible first | exact HB.out | apply bA | apply bN | apply bD | refine bS ?_ GE213.out | refine bS ?_ GE214.out | refine bS ?_ GE221.out) | exact HB.out)⟩⟩
        ·rw [if_neg c42] at H
         have c42b0 : decide (x7_2 < (wrap64 (1 + (wrap64 (Int.tdiv a0_1 4))))) = false := decide_eq_false c42
         clear c42
         have H' := Aside0.mk H
         clear H
         have hnb53 := NB213_214.out
         have hnc53 := NB214_213.out
         have hnb54 := NB213_221.out
         have hnc54 := NB221_213.out
         have q_ := cells3 BK213.out; have hcz55_0 := q_.c0; have hcz55_1 := q_.c1; have hcz55_2 := q_.c2; have hfz55_0 := q_.f0; have hfz55_1 := q_.f1; have hfz55_2 := q_.f2; clear q_
         go_wp2
         go_loopg [8] k2 (fun kq v8 w' => ∃ (x8_3 : Int) (x222002_3 : List Int) (u222002 : Value), v8 = .int .i64 x8_3 ∧ Aside0 (leveeref06_Fresh.l1 kq a1 x8_3 a1 x222001_2 x222002_3 = some (r1, r2, r3, r4)) ∧ Aside0 (kq ≤ k2) ∧ Aside0 (Kd.R (Kd.int .u8) 5 w' w.heap.size (fun k_ => some k_ ≠ (u222002 : Value).ownBlock) u222001 x222001_2) ∧ Aside0 (Kd.R (Kd.int .u8) 5 w' w.heap.size (fun k_ => some k_ ≠ (u222001 : Value).ownBlock) u222002 x222002_3) ∧ Aside0 (w'.heap[gb213]? = some (.cells #[.int .i64 a0_0, .int .i64 a0_1, .int .i64 a0_2] 23 (0, 0))) ∧ Aside0 (w'.heap[gb214]? = some (.cells #[.int .i64 0, (.slice none 0 0), (.slice none 0 0)] 31 (0, 0))) ∧ Aside0 (w'.heap[gb221]? = some (.cells #[.int .i64 a1, u222001, u222002] 31 (0, 0))) ∧ Aside0 (Below w.heap.size w w'))
         case atStart => exact ⟨(0), (y218), (.slice Ao17 y218.length co17), (by first | rfl | (simp; done) | (simp [*]; done)), H', ⟨Nat.le_refl _⟩, ⟨by (with_reducible repeat (first | apply Kd.R_alloc | apply Kd.R_drewN | apply Kd.R_drew)); exact HO_222001.out⟩, ⟨by (with_reducible repeat (first | apply Kd.R_alloc | apply Kd.R_drewN | apply Kd.R_drew)); exact HO_222002.out⟩, ⟨by (with_reducible repeat first | apply kN | apply kd | apply ka); exact BK213.out⟩, ⟨by (with_reducible repeat first | apply kN | apply kd | apply ka); exact BK214.out⟩, ⟨by (with_reducible repeat first | apply kN | apply kd | apply ka); exact BK221.out⟩, ⟨by repeat (first | (with_reducible first | exact HB.out | apply bA | apply bN | apply bD | refine bS ?_ GE213.out | refine bS ?_ GE214.out | refine bS ?_ GE221.out) | exact HB.out)⟩⟩
         case round =>
          clear H'
          try clear c2
          try clear p2
          try clear c3
          try clear c4
          try clear c5
          try clear p6
          try clear c23
          try clear c24
          try clear c24b0
          try clear c25
          try clear c26
          try clear c29
          try clear c30
          try clear c34
          try clear c35
          try clear c38
          try clear c39
          try clear c40
          try clear c42
          try clear c42b0
          try clear c44
          try clear c45
          try clear c47
          try clear c53
          try clear c54
          try clear hcz27_0 hcz27_1 hcz27_2
          try clear hcz31_0 hcz31_1 hcz31_2
          try clear hcz33_0 hcz33_1 hcz33_2
          try clear hcz36_0 hcz36_1 hcz36_2
          try clear hcz41_0 hcz41_1 hcz41_2
          try clear hcz46_0 hcz46_1 hcz46_2
          try clear hcz48_0 hcz48_1 hcz48_2
          try clear hcz52_0 hcz52_1 hcz52_2
          try clear hcz55_0 hcz55_1 hcz55_2
          try clear hfz27_0 hfz27_1 hfz27_2
          try clear hfz31_0 hfz31_1 hfz31_2
          try clear hfz33_0 hfz33_1 hfz33_2
          try clear hfz36_0 hfz36_1 hfz36_2
          try clear hfz41_0 hfz41_1 hfz41_2
          try clear hfz46_0 hfz46_1 hfz46_2
          try clear hfz48_0 hfz48_1 hfz48_2
          try clear hfz52_0 hfz52_1 hfz52_2
          try clear hfz55_0 hfz55_1 hfz55_2
          try clear p2
          obtain ⟨x8_3, x222002_3, u222002, rfl, HA, HK3, HO_222001, HO_222002, BK213, BK214, BK221, HB⟩ := hrel
          cases gk with
          | zero => exact absurd HA.out (by intro h0_; cases h0_)
          | succ k3 =>
           have H := HA.out
           clear HA
           simp only [leveeref06_Fresh.l1] at H
           by_cases c56 : x8_3 < 2
           ·rw [if_pos c56] at H
            have c56b0 : decide (x8_3 < 2) = true := decide_eq_true c56
            clear c56
            by_cases c57 : a1 = 0
            ·rw [if_pos c57] at H
             have c57b0 : (a1 == 0) = true := beq_iff_eq.mpr c57
             have c57b1 : (a1 != 0) = false := bne_eq_false_iff_eq.mpr c57
             clear c57
             replace H := Option.bind_eq_some_iff.mp H
             obtain ⟨⟨t227, t228⟩, A580, H⟩ := H
             replace H : (leveeref06_Fresh.l1 k3 a1 (wrap64 (x8_3 + 1)) a1 x222001_2 t227) = some (r1, r2, r3, r4) := H
             have A58 := Aside0.mk A580
             clear A580
             have H' := Aside0.mk H
             clear H
             have hnb59 := NB221_213.out
             have hnc59 := NB213_221.out
             have hnb60 := NB221_214.out
             have hnc60 := NB214_221.out
             have q_ := cells3 BK221.out; have hcz61_0 := q_.c0; have hcz61_1 := q_.c1; have hcz61_2 := q_.c2; have hfz61_0 := q_.f0; have hfz61_1 := q_.f1; have hfz61_2 := q_.f2; clear q_
             obtain ⟨Ao62, co62, eo62⟩ := Kd.R_slice HO_222002.out
             subst eo62
             go_wp2_with (first | ((with_reducible refine gate_callee (f := 39) rfl ?_); refine goesL_ (some 55) rfl rfl Try.func39 (by kernel_rfl) rfl #[.slice Ao62 x222002_3.length co62, .int .i64 x8_3, .bool true] rfl (by (try simp only [List.map_toArray, List.map_cons, List.map_nil]); first | done | rfl | (simp only [List.length_drop, List.length_take]; rfl)) ?_; (with_reducible refine (leveeref05_Set.calls k3 _ _ x222002_3 x8_3 true t227 t228 _ ?side1 ?side2 A58.out).mono ?_); (case side1 => repeat (first | exact (Kd.R_reads' HO_222002.out).2.2 | (with_reducible refine Kd.C_alloc ?_ _) | (with_reducible refine Kd.C_drewN ?_ _) | (with_reducible refine Kd.C_drew ?_))); (case side2 => exact (Kd.R_reads' HO_222002.out).2.1); rintro e w63 ⟨v229, rfl, ho0, hb⟩; refine ⟨_, rfl, ?_⟩; have n0_ := Aside0.mk (Kd.R_elder' (by (with_reducible repeat (first | apply Kd.R_alloc | apply Kd.R_drewN | apply Kd.R_drew)); exact HO_222001.out) (Kd.R_base ho0) hb); have n1_ := Aside0.mk (Kd.R_elder' (by (with_reducible repeat (first | apply Kd.R_alloc | apply Kd.R_drewN | apply Kd.R_drew)); exact HO_222002.out) (Kd.R_base ho0) hb); have n2_ := Aside0.mk (Kd.R_lower (Kd.R_new' (Kd.R_new' ho0 (Kd.R_lt (by (with_reducible repeat (first | apply Kd.R_alloc | apply Kd.R_drewN | apply Kd.R_drew)); exact HO_222001.out))) (Kd.R_lt (by (with_reducible repeat (first | apply Kd.R_alloc | apply Kd.R_drewN | apply Kd.R_drew)); exact HO_222002.out))) (below_size (by repeat (first | (with_reducible first | exact HB.out | apply bA | apply bN | apply bD | refine bS ?_ GE213.out | refine bS ?_ GE214.out | refine bS ?_ GE221.out) | exact HB.out)))); have n3_ := Aside0.mk (blk_below (g := gb213) (o := .cells #[.int .i64 a0_0, .int .i64 a0_1, .int .i64 a0_2] 23 (0, 0)) (by (with_reducible repeat first | apply kN | apply kd | apply ka); exact BK213.out) hb); have n4_ := Aside0.mk (blk_below (g := gb214) (o := .cells #[.int .i64 0, .slice none 0 0, .slice none 0 0] 31 (0, 0)) (by (with_reducible repeat first | apply kN | apply kd | apply ka); exact BK214.out) hb); have n5_ := Aside0.mk (blk_below (g := gb221) (o := .cells #[.int .i64 a1, u222001, .slice Ao62 x222002_3.length co62] 31 (0, 0)) (by (with_reducible repeat first | apply kN | apply kd | apply ka); exact BK221.out) hb); have n6_ := Aside0.mk (below_step (by repeat (first | (with_reducible first | exact HB.out | apply bA | apply bN | apply bD | refine bS ?_ GE213.out | refine bS ?_ GE214.out | refine bS ?_ GE221.out) | exact HB.out)) hb); clear HO_222001; clear HO_222002; clear BK213; clear BK214; clear BK221; clear HB; have HO_222001 := n0_; have HO_222002 := n1_; have HO230 := n2_; have BK213 := n3_; have BK214 := n4_; have BK221 := n5_; have HB := n6_; clear n0_ n1_ n2_ n3_ n4_ n5_ n6_; (try clear hb); (try clear hb2); (try clear hk); (try clear hi); (try clear ho0); obtain ⟨Ao64, co64, eo64⟩ := Kd.R_slice HO230.out; subst eo64; have q_ := cells3 BK221.out; have hcz65_0 := q_.c0; have hcz65_1 := q_.c1; have hcz65_2 := q_.c2; have hfz65_0 := q_.f0; have hfz65_1 := q_.f1; have hfz65_2 := q_.f2; clear q_))
             go_roundg k3
             case measure => have := HJ4.out; have := HK2.out; have := HK3.out; omega
             case rel => exact ⟨(wrap64 (x8_3 + 1)), (t227), (.slice Ao64 t227.length co64), (by first | rfl | (simp; done) | (simp [*]; done)), H', ⟨by have := HJ4.out; have := HK2.out; have := HK3.out; omega⟩, ⟨by (with_reducible repeat (first | apply Kd.R_alloc | apply Kd.R_drewN | apply Kd.R_drew)); exact Kd.R_mono (Kd.R_far (p := ⟨gb221, 2, none⟩) (Kd.R_types HO_222001.out BK221.out (by decide)) (fun _ hk => hk.2) (.slice Ao64 t227.length co64)) (fun _ hk => hk.1.2)⟩, ⟨by (with_reducible repeat (first | apply Kd.R_alloc | apply Kd.R_drewN | apply Kd.R_drew)); exact Kd.R_mono (Kd.R_far (p := ⟨gb221, 2, none⟩) (Kd.R_types HO230.out BK221.out (by decide)) (fun _ hk => hk.2) (.slice Ao64 t227.length co64)) (fun _ hk => hk.1.1.2)⟩, ⟨by (with_reducible repeat first | apply kN | apply kd | apply ka); refine blk_far ?_ NB213_221.out _; (with_reducible repeat first | apply kN | apply kd | apply ka); exact BK213.out⟩, ⟨by (with_reducible repeat first | apply kN | apply kd | apply ka); refine blk_far ?_ NB214_221.out _; (with_reducible repeat first | apply kN | apply kd | apply ka); exact BK214.out⟩, ⟨by (with_reducible repeat first | apply kN | apply kd | apply ka); refine blk_put (cs := #[.int .i64 a1, u222001, .slice Ao62 x222002_3.length co62]) ?_ 2 _ rfl; (with_reducible repeat first | apply kN | apply kd | apply ka); exact BK221.out⟩, ⟨by repeat (first | (with_reducible first | exact HB.out | apply bA | apply bN | apply bD | refine bS ?_ GE213.out | refine bS ?_ GE214.out | refine bS ?_ GE221.out) | exact HB.out)⟩⟩
            ·rw [if_neg c57] at H
             have c57b0 : (a1 == 0) = false := beq_eq_false_iff_ne.mpr c57
             have c57b1 : (a1 != 0) = true := bne_iff_ne.mpr c57
             simp only [Option.some.injEq, Prod.mk.injEq] at H
             obtain ⟨rfl, rfl, rfl, rfl⟩ := H
             have hnb66 := NB221_213.out
             have hnc66 := NB213_221.out
             have hnb67 := NB221_214.out
             have hnc67 := NB214_221.out
             have q_ := cells3 BK221.out; have hcz68_0 := q_.c0; have hcz68_1 := q_.c1; have hcz68_2 := q_.c2; have hfz68_0 := q_.f0; have hfz68_1 := q_.f1; have hfz68_2 := q_.f2; clear q_
             have hnb69 := NB214_213.out
             have hnc69 := NB213_214.out
             have q_ := cells3 BK214.out; have hcz70_0 := q_.c0; have hcz70_1 := q_.c1; have hcz70_2 := q_.c2; have hfz70_0 := q_.f0; have hfz70_1 := q_.f1; have hfz70_2 := q_.f2; clear q_
             obtain ⟨Ao71, co71, eo71⟩ := Kd.R_slice HO_222001.out
             subst eo71
             obtain ⟨Ao72, co72, eo72⟩ := Kd.R_slice HO_222002.out
             subst eo72
             go_wp2
             refine bodyPost_ret (results_ct rfl _ _ gb214 31 #[.int .i64 a1, .slice Ao71 x222001_2.length co71, .slice Ao72 x222002_3.length co72] (0, 0) _ rfl (by (with_reducible repeat first | apply kN | apply kd | apply ka); refine blk_put (cs := #[.int .i64 a1, .slice Ao71 x222001_2.length co71, .slice none 0 0]) ?_ 2 _ rfl; (with_reducible repeat first | apply kN | apply kd | apply ka); refine blk_put (cs := #[.int .i64 a1, .slice none 0 0, .slice none 0 0]) ?_ 1 _ rfl; (with_reducible repeat first | apply kN | apply kd | apply ka); refine blk_put (cs := #[.int .i64 0, .slice none 0 0, .slice none 0 0]) ?_ 0 _ rfl; (with_reducible repeat first | apply kN | apply kd | apply ka); exact BK214.out) Try.underlying31 rfl (by kernel_rfl)) rfl ?_
             exact ⟨_, _, by first | rfl | (simp [errW_none, errW_some] <;> rfl) | (simp [*, errW_none, errW_some] <;> rfl), by (with_reducible repeat (first | apply Kd.R_alloc | apply Kd.R_drewN | apply Kd.R_drew)); exact Kd.R_mono (Kd.R_far (p := ⟨gb214, 2, none⟩) (Kd.R_far (p := ⟨gb214, 1, none⟩) (Kd.R_far (p := ⟨gb214, 0, none⟩) (Kd.R_types HO_222001.out BK214.out (by decide)) (fun _ hk => hk.2) (.int .i64 a1)) (fun _ hk => hk.2) (.slice Ao71 x222001_2.length co71)) (fun _ hk => hk.2) (.slice Ao72 x222002_3.length co72)) (fun _ hk => hk.1), by (with_reducible repeat (first | apply Kd.R_alloc | apply Kd.R_drewN | apply Kd.R_drew)); exact Kd.R_mono (Kd.R_far (p := ⟨gb214, 2, none⟩) (Kd.R_far (p := ⟨gb214, 1, none⟩) (Kd.R_far (p := ⟨gb214, 0, none⟩) (Kd.R_types HO_222002.out BK214.out (by decide)) (fun _ hk => hk.2) (.int .i64 a1)) (fun _ hk => hk.2) (.slice Ao71 x222001_2.length co71)) (fun _ hk => hk.2) (.slice Ao72 x222002_3.length co72)) (fun _ hk => hk.1), by repeat (first | (with_reducible first | exact HB.out | apply bA | apply bN | apply bD | refine bS ?_ GE213.out | refine bS ?_ GE214.out | refine bS ?_ GE221.out) | exact HB.out)⟩
           ·rw [if_neg c56] at H
            have c56b0 : decide (x8_3 < 2) = false := decide_eq_false c56
            clear c56
            simp only [Option.some.injEq, Prod.mk.injEq] at H
            obtain ⟨rfl, rfl, rfl, rfl⟩ := H
            have hnb73 := NB221_213.out
            have hnc73 := NB213_221.out
            have hnb74 := NB221_214.out
            have hnc74 := NB214_221.out
            have q_ := cells3 BK221.out; have hcz75_0 := q_.c0; have hcz75_1 := q_.c1; have hcz75_2 := q_.c2; have hfz75_0 := q_.f0; have hfz75_1 := q_.f1; have hfz75_2 := q_.f2; clear q_
            have hnb76 := NB214_213.out
            have hnc76 := NB213_214.out
            have q_ := cells3 BK214.out; have hcz77_0 := q_.c0; have hcz77_1 := q_.c1; have hcz77_2 := q_.c2; have hfz77_0 := q_.f0; have hfz77_1 := q_.f1; have hfz77_2 := q_.f2; clear q_
            obtain ⟨Ao78, co78, eo78⟩ := Kd.R_slice HO_222001.out
            subst eo78
            obtain ⟨Ao79, co79, eo79⟩ := Kd.R_slice HO_222002.out
            subst eo79
            go_wp2
            refine bodyPost_ret (results_ct rfl _ _ gb214 31 #[.int .i64 a1, .slice Ao78 x222001_2.length co78, .slice Ao79 x222002_3.length co79] (0, 0) _ rfl (by (with_reducible repeat first | apply kN | apply kd | apply ka); refine blk_put (cs := #[.int .i64 a1, .slice Ao78 x222001_2.length co78, .slice none 0 0]) ?_ 2 _ rfl; (with_reducible repeat first | apply kN | apply kd | apply ka); refine blk_put (cs := #[.int .i64 a1, .slice none 0 0, .slice none 0 0]) ?_ 1 _ rfl; (with_reducible repeat first | apply kN | apply kd | apply ka); refine blk_put (cs := #[.int .i64 0, .slice none 0 0, .slice none 0 0]) ?_ 0 _ rfl; (with_reducible repeat first | apply kN | apply kd | apply ka); exact BK214.out) Try.underlying31 rfl (by kernel_rfl)) rfl ?_
            exact ⟨_, _, by first | rfl | (simp [errW_none, errW_some] <;> rfl) | (simp [*, errW_none, errW_some] <;> rfl), by (with_reducible repeat (first | apply Kd.R_alloc | apply Kd.R_drewN | apply Kd.R_drew)); exact Kd.R_mono (Kd.R_far (p := ⟨gb214, 2, none⟩) (Kd.R_far (p := ⟨gb214, 1, none⟩) (Kd.R_far (p := ⟨gb214, 0, none⟩) (Kd.R_types HO_222001.out BK214.out (by decide)) (fun _ hk => hk.2) (.int .i64 a1)) (fun _ hk => hk.2) (.slice Ao78 x222001_2.length co78)) (fun _ hk => hk.2) (.slice Ao79 x222002_3.length co79)) (fun _ hk => hk.1), by (with_reducible repeat (first | apply Kd.R_alloc | apply Kd.R_drewN | apply Kd.R_drew)); exact Kd.R_mono (Kd.R_far (p := ⟨gb214, 2, none⟩) (Kd.R_far (p := ⟨gb214, 1, none⟩) (Kd.R_far (p := ⟨gb214, 0, none⟩) (Kd.R_types HO_222002.out BK214.out (by decide)) (fun _ hk => hk.2) (.int .i64 a1)) (fun _ hk => hk.2) (.slice Ao78 x222001_2.length co78)) (fun _ hk => hk.2) (.slice Ao79 x222002_3.length co79)) (fun _ hk => hk.1), by repeat (first | (with_reducible first | exact HB.out | apply bA | apply bN | apply bD | refine bS ?_ GE213.out | refine bS ?_ GE214.out | refine bS ?_ GE221.out) | exact HB.out)⟩
  ·rw [if_neg c4] at H
   exact absurd H (by simp)
 ·rw [if_neg c3] at H
  exact absurd H (by simp)

end Go.Proofs.Ytonkgfgciegknaa.P
