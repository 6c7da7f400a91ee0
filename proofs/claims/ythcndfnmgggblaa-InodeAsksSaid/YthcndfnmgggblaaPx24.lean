-- PRINTED by print.py (a twelfth state) out of the translation. Not trusted: Lean checks it.
import Derived.Test.YthcndfnmgggblaaPx0
import Derived.Test.YthcndfnmgggblaaPx23
import Derived.Test.YthcndfnmgggblaaHand
import Derived.Test.YthcndfnmgggblaaHandInode
import Derived.Test.YthcndfnmgggblaaCells
namespace Go.Proofs.Ythcndfnmgggblaa.P
open Go.RowKit Go.Proofs.YthcndfnmgggblaaW.PrintWords Go.Proofs.YthcndfnmgggblaaW.PrintLast Go.Proofs.YthcndfnmgggblaaW.PrintMore
attribute [local go_sem] max2_int min2_int max_two min_two max_three min_three max_four min_four   -- for this text's walks alone
set_option linter.unusedVariables false
set_option linter.unusedSimpArgs false

/-! ### leveeref03_Size: function 45 -/
def leveeref03_Size.f (a0_0 : Int) (a0_1 : Int) (a0_2 : Int) : Option (Int) := (leveeref03_Right.f a0_0 a0_1 a0_2).bind fun t517 => (if t517 = true then (some (wrap64 (2 + (wrap64 (a0_2 * a0_0))))) else (some 0))
set_option maxHeartbeats 8000000 in
set_option maxRecDepth 100000 in
theorem leveeref03_Size.calls (a0_0 : Int) (a0_1 : Int) (a0_2 : Int) (r : Int) (w : World) (h : leveeref03_Size.f a0_0 a0_1 a0_2 = some r) :
  Calls Try.prog 45 #[.agg #[.int .i64 a0_0, .int .i64 a0_1, .int .i64 a0_2]] w fun e w' => e = .returned (.int .i64 r) ∧ Below w.heap.size w w' := by
 have hu41 := Try.underlying41
 have HB := Aside0.mk (Below.refl w.heap.size w)
 have H : ((leveeref03_Right.f a0_0 a0_1 a0_2).bind fun t517 => (if t517 = true then (some (wrap64 (2 + (wrap64 (a0_2 * a0_0))))) else (some 0))) = some r := h
 clear h
 replace H := Option.bind_eq_some_iff.mp H
 obtain ⟨t517, A20, H⟩ := H
 replace H : (if t517 = true then (some (wrap64 (2 + (wrap64 (a0_2 * a0_0))))) else (some 0)) = some r := H
 have A2 := Aside0.mk A20
 clear A20
 by_cases c3 : t517 = true
 ·subst c3
  have H1 : (some (wrap64 (2 + (wrap64 (a0_2 * a0_0))))) = some r := by rw [if_pos rfl] at H; exact H
  clear H
  have H := H1
  clear H1
  obtain rfl := Option.some.inj H
  go_enter Try.func45, Try.ntmps45
  go_wp2_with (first | ((with_reducible refine gate_dst (N := 1) rfl ?_); refine box_event ?hg (N := 1) ?hd (cs := #[.int .i64 a0_0, .int .i64 a0_1, .int .i64 a0_2]) (t := 41) ?hr ?_; (case hd => rfl); (case hg => rfl); (case hr => first | (go_simp; done) | (go_simp; rfl)); intro gb516 hg w4 hbox hb; have n0_ := Aside0.mk (below_step (by repeat (first | (with_reducible first | exact HB.out | apply below_alloc | apply pw_below_drewN | apply below_drew1) | exact HB.out)) hb); have n1_ := Aside0.mk (hbox); have n2_ := Aside0.mk ((by rw [hg]; exact (below_size (by repeat (first | (with_reducible first | exact HB.out | apply below_alloc | apply pw_below_drewN | apply below_drew1) | exact HB.out))) : w.heap.size ≤ gb516)); have n3_ := Aside0.mk ((by rw [hg]; exact (below_size (by repeat (first | (with_reducible first | exact HB.out | apply below_alloc | apply pw_below_drewN | apply below_drew1) | exact HB.out))) : w.heap.size ≤ gb516)); clear HB; have HB := n0_; have BK516 := n1_; have GW516 := n2_; have GE516 := n3_; clear n0_ n1_ n2_ n3_; clear hb hbox hg; have q_ := cells3 BK516.out; have hcz5_0 := q_.c0; have hcz5_1 := q_.c1; have hcz5_2 := q_.c2; have hfz5_0 := q_.f0; have hfz5_1 := q_.f1; have hfz5_2 := q_.f2; clear q_) | ((with_reducible refine gate_callee (f := 39) rfl ?_); refine goesL_ (some 4) rfl rfl Try.func39 (by kernel_rfl) rfl #[.agg #[.int .i64 a0_0, .int .i64 a0_1, .int .i64 a0_2]] rfl (by (try simp only [List.map_toArray, List.map_cons, List.map_nil]); first | done | rfl | (simp only [List.length_drop, List.length_take]; rfl)) ?_; (with_reducible refine (leveeref03_Right.calls a0_0 a0_1 a0_2 true _ A2.out).mono ?_); rintro e w6 ⟨rfl, hb⟩; refine ⟨_, rfl, ?_⟩; have n0_ := Aside0.mk (blk_below (g := gb516) (o := .cells #[.int .i64 a0_0, .int .i64 a0_1, .int .i64 a0_2] 41 (0, 0)) (by (with_reducible repeat (first | refine blk_drewN ?_ _ | refine blk_drew ?_ | refine blk_alloc ?_ _)); exact BK516.out) hb); have n1_ := Aside0.mk (below_step (by repeat (first | (with_reducible first | exact HB.out | apply below_alloc | apply pw_below_drewN | apply below_drew1 | refine below_set ?_ GE516.out) | exact HB.out)) hb); clear BK516; clear HB; have BK516 := n0_; have HB := n1_; clear n0_ n1_; (try clear hb); (try clear hb2); (try clear hk); (try clear hi); have q_ := cells3 BK516.out; have hcz7_0 := q_.c0; have hcz7_1 := q_.c1; have hcz7_2 := q_.c2; have hfz7_0 := q_.f0; have hfz7_1 := q_.f1; have hfz7_2 := q_.f2; clear q_))
  go_ret
  exact ⟨by first | rfl | (simp [errW_none, errW_some] <;> rfl) | (simp [*, errW_none, errW_some] <;> rfl), by repeat (first | (with_reducible first | exact HB.out | apply below_alloc | apply pw_below_drewN | apply below_drew1 | refine below_set ?_ GE516.out) | exact HB.out)⟩
 ·replace c3 := Bool.eq_false_iff.mpr c3
  subst c3
  have H1 : (some 0) = some r := by rw [if_neg (show ¬ (false = true) by decide)] at H; exact H
  clear H
  have H := H1
  clear H1
  obtain rfl := Option.some.inj H
  go_enter Try.func45, Try.ntmps45
  go_wp2_with (first | ((with_reducible refine gate_dst (N := 1) rfl ?_); refine box_event ?hg (N := 1) ?hd (cs := #[.int .i64 a0_0, .int .i64 a0_1, .int .i64 a0_2]) (t := 41) ?hr ?_; (case hd => rfl); (case hg => rfl); (case hr => first | (go_simp; done) | (go_simp; rfl)); intro gb516 hg w8 hbox hb; have n0_ := Aside0.mk (below_step (by repeat (first | (with_reducible first | exact HB.out | apply below_alloc | apply pw_below_drewN | apply below_drew1) | exact HB.out)) hb); have n1_ := Aside0.mk (hbox); have n2_ := Aside0.mk ((by rw [hg]; exact (below_size (by repeat (first | (with_reducible first | exact HB.out | apply below_alloc | apply pw_below_drewN | apply below_drew1) | exact HB.out))) : w.heap.size ≤ gb516)); have n3_ := Aside0.mk ((by rw [hg]; exact (below_size (by repeat (first | (with_reducible first | exact HB.out | apply below_alloc | apply pw_below_drewN | apply below_drew1) | exact HB.out))) : w.heap.size ≤ gb516)); clear HB; have HB := n0_; have BK516 := n1_; have GW516 := n2_; have GE516 := n3_; clear n0_ n1_ n2_ n3_; clear hb hbox hg; have q_ := cells3 BK516.out; have hcz9_0 := q_.c0; have hcz9_1 := q_.c1; have hcz9_2 := q_.c2; have hfz9_0 := q_.f0; have hfz9_1 := q_.f1; have hfz9_2 := q_.f2; clear q_) | ((with_reducible refine gate_callee (f := 39) rfl ?_); refine goesL_ (some 4) rfl rfl Try.func39 (by kernel_rfl) rfl #[.agg #[.int .i64 a0_0, .int .i64 a0_1, .int .i64 a0_2]] rfl (by (try simp only [List.map_toArray, List.map_cons, List.map_nil]); first | done | rfl | (simp only [List.length_drop, List.length_take]; rfl)) ?_; (with_reducible refine (leveeref03_Right.calls a0_0 a0_1 a0_2 false _ A2.out).mono ?_); rintro e w10 ⟨rfl, hb⟩; refine ⟨_, rfl, ?_⟩; have n0_ := Aside0.mk (blk_below (g := gb516) (o := .cells #[.int .i64 a0_0, .int .i64 a0_1, .int .i64 a0_2] 41 (0, 0)) (by (with_reducible repeat (first | refine blk_drewN ?_ _ | refine blk_drew ?_ | refine blk_alloc ?_ _)); exact BK516.out) hb); have n1_ := Aside0.mk (below_step (by repeat (first | (with_reducible first | exact HB.out | apply below_alloc | apply pw_below_drewN | apply below_drew1 | refine below_set ?_ GE516.out) | exact HB.out)) hb); clear BK516; clear HB; have BK516 := n0_; have HB := n1_; clear n0_ n1_; (try clear hb); (try clear hb2); (try clear hk); (try clear hi)))
  go_ret
  exact ⟨by first | rfl | (simp [errW_none, errW_some] <;> rfl) | (simp [*, errW_none, errW_some] <;> rfl), by repeat (first | (with_reducible first | exact HB.out | apply below_alloc | apply pw_below_drewN | apply below_drew1 | refine below_set ?_ GE516.out) | exact HB.out)⟩

/-! ### leveeref03_Kind: function 40 -/
def leveeref03_Kind.j0 : Nat → Int → Bool → Int → Int → Int → Option (Int × Int)
 | 0, _, _, _, _, _ => none
 | k + 1, x1, x20, x519000, x519001, x519002 => if x20 = true then (some (0, (-1))) else (if x1 < 2 then (some (1, (-1))) else (if x519000 = 0 then (none) else (if (Int.tmod (wrap64 (x1 - 2)) x519000) = 0 then (some (2, wrap64 (Int.tdiv (wrap64 (x1 - 2)) x519000))) else (if (Int.tmod (wrap64 (x1 - 2)) x519000) ≤ (wrap64 (Int.tdiv x519001 4)) then (some (3, wrap64 (Int.tdiv (wrap64 (x1 - 2)) x519000))) else (some (4, wrap64 (Int.tdiv (wrap64 (x1 - 2)) x519000)))))))
def leveeref03_Kind.f (k : Nat) (a0_0 : Int) (a0_1 : Int) (a0_2 : Int) (a1 : Int) : Option (Int × Int) := (leveeref03_Right.f a0_0 a0_1 a0_2).bind fun t519 => (if t519 = true then (if a1 < 0 then (leveeref03_Kind.j0 k a1 true a0_0 a0_1 a0_2) else ((leveeref03_Size.f a0_0 a0_1 a0_2).bind fun t520 => (leveeref03_Kind.j0 k a1 (decide (a1 ≥ t520)) a0_0 a0_1 a0_2))) else (leveeref03_Kind.j0 k a1 true a0_0 a0_1 a0_2))
theorem leveeref03_Kind.mono_l : ∀ k, (∀ y0 y1 y2 y3 y4, LeO (leveeref03_Kind.j0 k y0 y1 y2 y3 y4) (leveeref03_Kind.j0 (k + 1) y0 y1 y2 y3 y4))
 | 0 => fun _ _ _ _ _ r h => by simp [leveeref03_Kind.j0] at h
 | k + 1 => by
  have ih0 := leveeref03_Kind.mono_l k
  ·intro y0 y1 y2 y3 y4
   unfold leveeref03_Kind.j0
   repeat' first
   | (with_reducible exact ih0 _ _ _ _ _)
   | (with_reducible exact LeO.refl _)
   | (with_reducible exact LeO.none _)
   | (with_reducible refine LeO.ite ?_ ?_)
   | (with_reducible refine LeO.bind ?_ (fun _ => ?_))
   | exact ih0 _ _ _ _ _
   | exact LeO.none _
   | refine LeO.ite ?_ ?_
   | refine LeO.bind ?_ (fun _ => ?_)
theorem leveeref03_Kind.mono : ∀ a0 a1 a2 a3 k, LeO (leveeref03_Kind.f k a0 a1 a2 a3) (leveeref03_Kind.f (k + 1) a0 a1 a2 a3) := by
 intro a0 a1 a2 a3 k
 have ih0 := leveeref03_Kind.mono_l k
 unfold leveeref03_Kind.f
 repeat' first
   | (with_reducible exact ih0 _ _ _ _ _)
   | (with_reducible exact LeO.refl _)
   | (with_reducible exact LeO.none _)
   | (with_reducible refine LeO.ite ?_ ?_)
   | (with_reducible refine LeO.bind ?_ (fun _ => ?_))
   | exact ih0 _ _ _ _ _
   | exact LeO.none _
   | refine LeO.ite ?_ ?_
   | refine LeO.bind ?_ (fun _ => ?_)
set_option maxHeartbeats 8000000 in
set_option maxRecDepth 100000 in
theorem leveeref03_Kind.calls (k : Nat) (a0_0 : Int) (a0_1 : Int) (a0_2 : Int) (a1 : Int) (r1 : Int) (r2 : Int) (w : World) (h : leveeref03_Kind.f k a0_0 a0_1 a0_2 a1 = some (r1, r2)) :
  Calls Try.prog 40 #[.agg #[.int .i64 a0_0, .int .i64 a0_1, .int .i64 a0_2], .int .i64 a1] w fun e w' => e = .returned (.tuple #[.int .i64 r1, .int .i64 r2]) ∧ Below w.heap.size w w' := by
 have hu41 := Try.underlying41
 have HB := Aside0.mk (Below.refl w.heap.size w)
 have H : ((leveeref03_Right.f a0_0 a0_1 a0_2).bind fun t519 => (if t519 = true then (if a1 < 0 then (leveeref03_Kind.j0 k a1 true a0_0 a0_1 a0_2) else ((leveeref03_Size.f a0_0 a0_1 a0_2).bind fun t520 => (leveeref03_Kind.j0 k a1 (decide (a1 ≥ t520)) a0_0 a0_1 a0_2))) else (leveeref03_Kind.j0 k a1 true a0_0 a0_1 a0_2))) = some (r1, r2) := h
 clear h
 have HC3 := Aside0.mk H
 clear H
 go_enter Try.func40, Try.ntmps40
 go_upto_region 1 with (first | ((with_reducible refine gate_dst (N := 2) rfl ?_); refine box_event ?hg (N := 2) ?hd (cs := #[.int .i64 a0_0, .int .i64 a0_1, .int .i64 a0_2]) (t := 41) ?hr ?_; (case hd => rfl); (case hg => rfl); (case hr => first | (go_simp; done) | (go_simp; rfl)); intro gb518 hg w4 hbox hb; have n0_ := Aside0.mk (below_step (by repeat (first | (with_reducible first | exact HB.out | apply below_alloc | apply pw_below_drewN | apply below_drew1) | exact HB.out)) hb); have n1_ := Aside0.mk (hbox); have n2_ := Aside0.mk ((by rw [hg]; exact (below_size (by repeat (first | (with_reducible first | exact HB.out | apply below_alloc | apply pw_below_drewN | apply below_drew1) | exact HB.out))) : w.heap.size ≤ gb518)); have n3_ := Aside0.mk ((by rw [hg]; exact (below_size (by repeat (first | (with_reducible first | exact HB.out | apply below_alloc | apply pw_below_drewN | apply below_drew1) | exact HB.out))) : w.heap.size ≤ gb518)); clear HB; have HB := n0_; have BK518 := n1_; have GW518 := n2_; have GE518 := n3_; clear n0_ n1_ n2_ n3_; clear hb hbox hg))
 (try simp only [Act.put, List.setIfInBounds_toArray, List.set_cons_zero, List.set_cons_succ])
 go_cut [20] (fun v20 wc => ∃ (kq : Nat) (x20_2 : Bool), v20 = .bool x20_2 ∧ Aside0 (leveeref03_Kind.j0 kq a1 x20_2 a0_0 a0_1 a0_2 = some (r1, r2)) ∧ Aside0 (kq ≤ k) ∧ Aside0 (wc.heap[gb518]? = some (.cells #[.int .i64 a0_0, .int .i64 a0_1, .int .i64 a0_2] 41 (0, 0))) ∧ Aside0 (Below w.heap.size w wc))
 case first =>
  have H := HC3.out
  clear HC3
  replace H := Option.bind_eq_some_iff.mp H
  obtain ⟨t519, A50, H⟩ := H
  replace H : (if t519 = true then (if a1 < 0 then (leveeref03_Kind.j0 k a1 true a0_0 a0_1 a0_2) else ((leveeref03_Size.f a0_0 a0_1 a0_2).bind fun t520 => (leveeref03_Kind.j0 k a1 (decide (a1 ≥ t520)) a0_0 a0_1 a0_2))) else (leveeref03_Kind.j0 k a1 true a0_0 a0_1 a0_2)) = some (r1, r2) := H
  have A5 := Aside0.mk A50
  clear A50
  by_cases c6 : t519 = true
  ·subst c6
   have H1 : (if a1 < 0 then (leveeref03_Kind.j0 k a1 true a0_0 a0_1 a0_2) else ((leveeref03_Size.f a0_0 a0_1 a0_2).bind fun t520 => (leveeref03_Kind.j0 k a1 (decide (a1 ≥ t520)) a0_0 a0_1 a0_2))) = some (r1, r2) := by rw [if_pos rfl] at H; exact H
   clear H
   have H := H1
   clear H1
   by_cases c7 : a1 < 0
   ·rw [if_pos c7] at H
    have c7b0 : decide (a1 < 0) = true := decide_eq_true c7
    clear c7
    (first | rw [c7b0] | (simp only [i64_w, i32_w]; rw [c7b0]) | skip)
    have H' := Aside0.mk H
    clear H
    have q_ := cells3 BK518.out; have hcz8_0 := q_.c0; have hcz8_1 := q_.c1; have hcz8_2 := q_.c2; have hfz8_0 := q_.f0; have hfz8_1 := q_.f1; have hfz8_2 := q_.f2; clear q_
    go_wp2_with (first | ((with_reducible refine gate_callee (f := 39) rfl ?_); refine goesL_ (some 9) rfl rfl Try.func39 (by kernel_rfl) rfl #[.agg #[.int .i64 a0_0, .int .i64 a0_1, .int .i64 a0_2]] rfl (by (try simp only [List.map_toArray, List.map_cons, List.map_nil]); first | done | rfl | (simp only [List.length_drop, List.length_take]; rfl)) ?_; (with_reducible refine (leveeref03_Right.calls a0_0 a0_1 a0_2 true _ A5.out).mono ?_); rintro e w9 ⟨rfl, hb⟩; refine ⟨_, rfl, ?_⟩; have n0_ := Aside0.mk (blk_below (g := gb518) (o := .cells #[.int .i64 a0_0, .int .i64 a0_1, .int .i64 a0_2] 41 (0, 0)) (by (with_reducible repeat (first | refine blk_drewN ?_ _ | refine blk_drew ?_ | refine blk_alloc ?_ _)); exact BK518.out) hb); have n1_ := Aside0.mk (below_step (by repeat (first | (with_reducible first | exact HB.out | apply below_alloc | apply pw_below_drewN | apply below_drew1 | refine below_set ?_ GE518.out) | exact HB.out)) hb); clear BK518; clear HB; have BK518 := n0_; have HB := n1_; clear n0_ n1_; (try clear hb); (try clear hb2); (try clear hk); (try clear hi)))
    go_meet
    case rel => exact ⟨_, (true), (by first | rfl | (simp; done) | (simp [*]; done)), H', ⟨by first | omega | exact Nat.le_refl _⟩, ⟨by (with_reducible repeat (first | refine blk_drewN ?_ _ | refine blk_drew ?_ | refine blk_alloc ?_ _)); exact BK518.out⟩, ⟨by repeat (first | (with_reducible first | exact HB.out | apply below_alloc | apply pw_below_drewN | apply below_drew1 | refine below_set ?_ GE518.out) | exact HB.out)⟩⟩
   ·rw [if_neg c7] at H
    have c7b0 : decide (a1 < 0) = false := decide_eq_false c7
    clear c7
    (first | rw [c7b0] | (simp only [i64_w, i32_w]; rw [c7b0]) | skip)
    replace H := Option.bind_eq_some_iff.mp H
    obtain ⟨t520, A100, H⟩ := H
    replace H : (leveeref03_Kind.j0 k a1 (decide (a1 ≥ t520)) a0_0 a0_1 a0_2) = some (r1, r2) := H
    have A10 := Aside0.mk A100
    clear A100
    have H' := Aside0.mk H
    clear H
    have q_ := cells3 BK518.out; have hcz11_0 := q_.c0; have hcz11_1 := q_.c1; have hcz11_2 := q_.c2; have hfz11_0 := q_.f0; have hfz11_1 := q_.f1; have hfz11_2 := q_.f2; clear q_
    go_wp2_with (first | ((with_reducible refine gate_callee (f := 39) rfl ?_); refine goesL_ (some 9) rfl rfl Try.func39 (by kernel_rfl) rfl #[.agg #[.int .i64 a0_0, .int .i64 a0_1, .int .i64 a0_2]] rfl (by (try simp only [List.map_toArray, List.map_cons, List.map_nil]); first | done | rfl | (simp only [List.length_drop, List.length_take]; rfl)) ?_; (with_reducible refine (leveeref03_Right.calls a0_0 a0_1 a0_2 true _ A5.out).mono ?_); rintro e w12 ⟨rfl, hb⟩; refine ⟨_, rfl, ?_⟩; have n0_ := Aside0.mk (blk_below (g := gb518) (o := .cells #[.int .i64 a0_0, .int .i64 a0_1, .int .i64 a0_2] 41 (0, 0)) (by (with_reducible repeat (first | refine blk_drewN ?_ _ | refine blk_drew ?_ | refine blk_alloc ?_ _)); exact BK518.out) hb); have n1_ := Aside0.mk (below_step (by repeat (first | (with_reducible first | exact HB.out | apply below_alloc | apply pw_below_drewN | apply below_drew1 | refine below_set ?_ GE518.out) | exact HB.out)) hb); clear BK518; clear HB; have BK518 := n0_; have HB := n1_; clear n0_ n1_; (try clear hb); (try clear hb2); (try clear hk); (try clear hi); have q_ := cells3 BK518.out; have hcz13_0 := q_.c0; have hcz13_1 := q_.c1; have hcz13_2 := q_.c2; have hfz13_0 := q_.f0; have hfz13_1 := q_.f1; have hfz13_2 := q_.f2; clear q_) | (go_at_call 45; (with_reducible refine (leveeref03_Size.calls a0_0 a0_1 a0_2 t520 _ A10.out).mono ?_); rintro e w14 ⟨rfl, hb⟩; have n0_ := Aside0.mk (blk_below (g := gb518) (o := .cells #[.int .i64 a0_0, .int .i64 a0_1, .int .i64 a0_2] 41 (0, 0)) (by (with_reducible repeat (first | refine blk_drewN ?_ _ | refine blk_drew ?_ | refine blk_alloc ?_ _)); exact BK518.out) hb); have n1_ := Aside0.mk (below_step (by repeat (first | (with_reducible first | exact HB.out | apply below_alloc | apply pw_below_drewN | apply below_drew1 | refine below_set ?_ GE518.out) | exact HB.out)) hb); clear BK518; clear HB; have BK518 := n0_; have HB := n1_; clear n0_ n1_; (try clear hb); (try clear hb2); (try clear hk); (try clear hi)))
    go_meet
    case rel => exact ⟨_, (decide (a1 ≥ t520)), (by first | rfl | (simp; done) | (simp [*]; done)), H', ⟨by first | omega | exact Nat.le_refl _⟩, ⟨by (with_reducible repeat (first | refine blk_drewN ?_ _ | refine blk_drew ?_ | refine blk_alloc ?_ _)); exact BK518.out⟩, ⟨by repeat (first | (with_reducible first | exact HB.out | apply below_alloc | apply pw_below_drewN | apply below_drew1 | refine below_set ?_ GE518.out) | exact HB.out)⟩⟩
  ·replace c6 := Bool.eq_false_iff.mpr c6
   subst c6
   have H1 : (leveeref03_Kind.j0 k a1 true a0_0 a0_1 a0_2) = some (r1, r2) := by rw [if_neg (show ¬ (false = true) by decide)] at H; exact H
   clear H
   have H := H1
   clear H1
   have H' := Aside0.mk H
   clear H
   have q_ := cells3 BK518.out; have hcz15_0 := q_.c0; have hcz15_1 := q_.c1; have hcz15_2 := q_.c2; have hfz15_0 := q_.f0; have hfz15_1 := q_.f1; have hfz15_2 := q_.f2; clear q_
   go_wp2_with (first | ((with_reducible refine gate_callee (f := 39) rfl ?_); refine goesL_ (some 9) rfl rfl Try.func39 (by kernel_rfl) rfl #[.agg #[.int .i64 a0_0, .int .i64 a0_1, .int .i64 a0_2]] rfl (by (try simp only [List.map_toArray, List.map_cons, List.map_nil]); first | done | rfl | (simp only [List.length_drop, List.length_take]; rfl)) ?_; (with_reducible refine (leveeref03_Right.calls a0_0 a0_1 a0_2 false _ A5.out).mono ?_); rintro e w16 ⟨rfl, hb⟩; refine ⟨_, rfl, ?_⟩; have n0_ := Aside0.mk (blk_below (g := gb518) (o := .cells #[.int .i64 a0_0, .int .i64 a0_1, .int .i64 a0_2] 41 (0, 0)) (by (with_reducible repeat (first | refine blk_drewN ?_ _ | refine blk_drew ?_ | refine blk_alloc ?_ _)); exact BK518.out) hb); have n1_ := Aside0.mk (below_step (by repeat (first | (with_reducible first | exact HB.out | apply below_alloc | apply pw_below_drewN | apply below_drew1 | refine below_set ?_ GE518.out) | exact HB.out)) hb); clear BK518; clear HB; have BK518 := n0_; have HB := n1_; clear n0_ n1_; (try clear hb); (try clear hb2); (try clear hk); (try clear hi)))
   go_meet
   case rel => exact ⟨_, (true), (by first | rfl | (simp; done) | (simp [*]; done)), H', ⟨by first | omega | exact Nat.le_refl _⟩, ⟨by (with_reducible repeat (first | refine blk_drewN ?_ _ | refine blk_drew ?_ | refine blk_alloc ?_ _)); exact BK518.out⟩, ⟨by repeat (first | (with_reducible first | exact HB.out | apply below_alloc | apply pw_below_drewN | apply below_drew1 | refine below_set ?_ GE518.out) | exact HB.out)⟩⟩
 case rest =>
  clear HC3
  try clear p2
  try clear c3
  try clear c4
  try clear c6
  try clear c7
  try clear c7b0
  try clear hcz11_0 hcz11_1 hcz11_2
  try clear hcz13_0 hcz13_1 hcz13_2
  try clear hcz15_0 hcz15_1 hcz15_2
  try clear hcz8_0 hcz8_1 hcz8_2
  try clear hfz11_0 hfz11_1 hfz11_2
  try clear hfz13_0 hfz13_1 hfz13_2
  try clear hfz15_0 hfz15_1 hfz15_2
  try clear hfz8_0 hfz8_1 hfz8_2
  obtain ⟨kq, x20_2, rfl, HA, HJ2, BK518, HB⟩ := hcut
  cases kq with
  | zero => exact absurd HA.out (by simp [leveeref03_Kind.j0])
  | succ kj2 =>
   have H := HA.out
   clear HA
   simp only [leveeref03_Kind.j0] at H
   by_cases c17 : x20_2 = true
   ·subst c17
    have H1 : (some (0, (-1))) = some (r1, r2) := by rw [if_pos rfl] at H; exact H
    clear H
    have H := H1
    clear H1
    simp only [Option.some.injEq, Prod.mk.injEq] at H
    obtain ⟨rfl, rfl⟩ := H
    go_wp2
    go_ret2
    exact ⟨by first | rfl | (simp [errW_none, errW_some] <;> rfl) | (simp [*, errW_none, errW_some] <;> rfl), by repeat (first | (with_reducible first | exact HB.out | apply below_alloc | apply pw_below_drewN | apply below_drew1 | refine below_set ?_ GE518.out) | exact HB.out)⟩
   ·replace c17 := Bool.eq_false_iff.mpr c17
    subst c17
    have H1 : (if a1 < 2 then (some (1, (-1))) else (if a0_0 = 0 then (none) else (if (Int.tmod (wrap64 (a1 - 2)) a0_0) = 0 then (some (2, wrap64 (Int.tdiv (wrap64 (a1 - 2)) a0_0))) else (if (Int.tmod (wrap64 (a1 - 2)) a0_0) ≤ (wrap64 (Int.tdiv a0_1 4)) then (some (3, wrap64 (Int.tdiv (wrap64 (a1 - 2)) a0_0))) else (some (4, wrap64 (Int.tdiv (wrap64 (a1 - 2)) a0_0))))))) = some (r1, r2) := by rw [if_neg (show ¬ (false = true) by decide)] at H; exact H
    clear H
    have H := H1
    clear H1
    by_cases c18 : a1 < 2
    ·rw [if_pos c18] at H
     have c18b0 : decide (a1 < 2) = true := decide_eq_true c18
     clear c18
     simp only [Option.some.injEq, Prod.mk.injEq] at H
     obtain ⟨rfl, rfl⟩ := H
     go_wp2
     go_ret2
     exact ⟨by first | rfl | (simp [errW_none, errW_some] <;> rfl) | (simp [*, errW_none, errW_some] <;> rfl), by repeat (first | (with_reducible first | exact HB.out | apply below_alloc | apply pw_below_drewN | apply below_drew1 | refine below_set ?_ GE518.out) | exact HB.out)⟩
    ·rw [if_neg c18] at H
     have c18b0 : decide (a1 < 2) = false := decide_eq_false c18
     clear c18
     by_cases c19 : a0_0 = 0
     ·rw [if_pos c19] at H
      exact absurd H (by simp)
     ·rw [if_neg c19] at H
      have c19b0 : (a0_0 == 0) = false := beq_eq_false_iff_ne.mpr c19
      have c19b1 : (a0_0 != 0) = true := bne_iff_ne.mpr c19
      by_cases c20 : (Int.tmod (wrap64 (a1 - 2)) a0_0) = 0
      ·rw [if_pos c20] at H
       have c20b0 : ((Int.tmod (wrap64 (a1 - 2)) a0_0) == 0) = true := beq_iff_eq.mpr c20
       have c20b1 : ((Int.tmod (wrap64 (a1 - 2)) a0_0) != 0) = false := bne_eq_false_iff_eq.mpr c20
       clear c20
       simp only [Option.some.injEq, Prod.mk.injEq] at H
       obtain ⟨rfl, rfl⟩ := H
       have q_ := cells3 BK518.out; have hcz21_0 := q_.c0; have hcz21_1 := q_.c1; have hcz21_2 := q_.c2; have hfz21_0 := q_.f0; have hfz21_1 := q_.f1; have hfz21_2 := q_.f2; clear q_
       go_wp2
       go_ret2
       exact ⟨by first | rfl | (simp [errW_none, errW_some] <;> rfl) | (simp [*, errW_none, errW_some] <;> rfl), by repeat (first | (with_reducible first | exact HB.out | apply below_alloc | apply pw_below_drewN | apply below_drew1 | refine below_set ?_ GE518.out) | exact HB.out)⟩
      ·rw [if_neg c20] at H
       have c20b0 : ((Int.tmod (wrap64 (a1 - 2)) a0_0) == 0) = false := beq_eq_false_iff_ne.mpr c20
       have c20b1 : ((Int.tmod (wrap64 (a1 - 2)) a0_0) != 0) = true := bne_iff_ne.mpr c20
       by_cases c22 : (Int.tmod (wrap64 (a1 - 2)) a0_0) ≤ (wrap64 (Int.tdiv a0_1 4))
       ·rw [if_pos c22] at H
        have c22b0 : decide ((Int.tmod (wrap64 (a1 - 2)) a0_0) ≤ (wrap64 (Int.tdiv a0_1 4))) = true := decide_eq_true c22
        clear c22
        simp only [Option.some.injEq, Prod.mk.injEq] at H
        obtain ⟨rfl, rfl⟩ := H
        have q_ := cells3 BK518.out; have hcz23_0 := q_.c0; have hcz23_1 := q_.c1; have hcz23_2 := q_.c2; have hfz23_0 := q_.f0; have hfz23_1 := q_.f1; have hfz23_2 := q_.f2; clear q_
        go_wp2
        go_ret2
        exact ⟨by first | rfl | (simp [errW_none, errW_some] <;> rfl) | (simp [*, errW_none, errW_some] <;> rfl), by repeat (first | (with_reducible first | exact HB.out | apply below_alloc | apply pw_below_drewN | apply below_drew1 | refine below_set ?_ GE518.out) | exact HB.out)⟩
       ·rw [if_neg c22] at H
        have c22b0 : decide ((Int.tmod (wrap64 (a1 - 2)) a0_0) ≤ (wrap64 (Int.tdiv a0_1 4))) = false := decide_eq_false c22
        clear c22
        simp only [Option.some.injEq, Prod.mk.injEq] at H
        obtain ⟨rfl, rfl⟩ := H
        have q_ := cells3 BK518.out; have hcz24_0 := q_.c0; have hcz24_1 := q_.c1; have hcz24_2 := q_.c2; have hfz24_0 := q_.f0; have hfz24_1 := q_.f1; have hfz24_2 := q_.f2; clear q_
        go_wp2
        go_ret2
        exact ⟨by first | rfl | (simp [errW_none, errW_some] <;> rfl) | (simp [*, errW_none, errW_some] <;> rfl), by repeat (first | (with_reducible first | exact HB.out | apply below_alloc | apply pw_below_drewN | apply below_drew1 | refine below_set ?_ GE518.out) | exact HB.out)⟩

end Go.Proofs.Ythcndfnmgggblaa.P
