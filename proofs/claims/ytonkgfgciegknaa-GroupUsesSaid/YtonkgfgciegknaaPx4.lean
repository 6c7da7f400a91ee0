-- PRINTED by print.py (a twelfth state) out of the translation. Not trusted: Lean checks it.
import Derived.Test.YtonkgfgciegknaaPx0
import Derived.Test.YtonkgfgciegknaaHand
import Derived.Test.YtonkgfgciegknaaCells
namespace Go.Proofs.Ytonkgfgciegknaa.P
open Go.RowKit Go.Proofs.YtonkgfgciegknaaW.PrintWords Go.Proofs.YtonkgfgciegknaaW.PrintLast Go.Proofs.YtonkgfgciegknaaW.PrintMore
attribute [local go_sem] max2_int min2_int max_two min_two max_three min_three max_four min_four   -- for this text's walks alone
set_option linter.unusedVariables false
set_option linter.unusedSimpArgs false

/-! ### leveeref03_Right: function 30 -/
def leveeref03_Right.f (a0_0 : Int) (a0_1 : Int) (a0_2 : Int) : Option (Bool) := if a0_0 < 16 then (some false) else (if a0_0 > 128 then (some false) else (if a0_1 < 4 then (some false) else (if a0_1 > 64 then (some false) else (if (Int.tmod a0_1 4) = 0 then (if a0_2 < 1 then (some false) else (if a0_2 > 16 then (some false) else (if (wrap64 ((wrap64 (a0_0 - 1)) - (wrap64 (Int.tdiv a0_1 4)))) ≥ 4 then (some (decide ((wrap64 (2 + (wrap64 (a0_2 * a0_0)))) ≤ 4096))) else (some false)))) else (some false)))))
set_option maxHeartbeats 8000000 in
set_option maxRecDepth 100000 in
theorem leveeref03_Right.calls (a0_0 : Int) (a0_1 : Int) (a0_2 : Int) (r : Bool) (w : World) (h : leveeref03_Right.f a0_0 a0_1 a0_2 = some r) :
  Calls Try.prog 30 #[.agg #[.int .i64 a0_0, .int .i64 a0_1, .int .i64 a0_2]] w fun e w' => e = .returned (.bool r) ∧ Below w.heap.size w w' := by
 have hu23 := Try.underlying23
 have HB := Aside0.mk (Below.refl w.heap.size w)
 have H : (if a0_0 < 16 then (some false) else (if a0_0 > 128 then (some false) else (if a0_1 < 4 then (some false) else (if a0_1 > 64 then (some false) else (if (Int.tmod a0_1 4) = 0 then (if a0_2 < 1 then (some false) else (if a0_2 > 16 then (some false) else (if (wrap64 ((wrap64 (a0_0 - 1)) - (wrap64 (Int.tdiv a0_1 4)))) ≥ 4 then (some (decide ((wrap64 (2 + (wrap64 (a0_2 * a0_0)))) ≤ 4096))) else (some false)))) else (some false)))))) = some r := h
 clear h
 by_cases c2 : a0_0 < 16
 ·rw [if_pos c2] at H
  have c2b0 : decide (a0_0 < 16) = true := decide_eq_true c2
  clear c2
  obtain rfl := Option.some.inj H
  go_enter Try.func30, Try.ntmps30
  go_wp2_with (first | ((with_reducible refine gate_dst (N := 1) rfl ?_); refine box_event ?hg (N := 1) ?hd (cs := #[.int .i64 a0_0, .int .i64 a0_1, .int .i64 a0_2]) (t := 23) ?hr ?_; (case hd => rfl); (case hg => rfl); (case hr => first | (go_simp; done) | (go_simp; rfl)); intro gb123 hg w3 hbox hb; have n0_ := Aside0.mk (below_step (by repeat (first | (with_reducible first | exact HB.out | apply bA | apply bN | apply bD) | exact HB.out)) hb); have n1_ := Aside0.mk (hbox); have n2_ := Aside0.mk ((by rw [hg]; exact (below_size (by repeat (first | (with_reducible first | exact HB.out | apply bA | apply bN | apply bD) | exact HB.out))) : w.heap.size ≤ gb123)); have n3_ := Aside0.mk ((by rw [hg]; exact (below_size (by repeat (first | (with_reducible first | exact HB.out | apply bA | apply bN | apply bD) | exact HB.out))) : w.heap.size ≤ gb123)); clear HB; have HB := n0_; have BK123 := n1_; have GW123 := n2_; have GE123 := n3_; clear n0_ n1_ n2_ n3_; clear hb hbox hg; have q_ := cells3 BK123.out; have hcz4_0 := q_.c0; have hcz4_1 := q_.c1; have hcz4_2 := q_.c2; have hfz4_0 := q_.f0; have hfz4_1 := q_.f1; have hfz4_2 := q_.f2; clear q_))
  go_ret
  exact ⟨by first | rfl | (simp [errW_none, errW_some] <;> rfl) | (simp [*, errW_none, errW_some] <;> rfl), by repeat (first | (with_reducible first | exact HB.out | apply bA | apply bN | apply bD | refine bS ?_ GE123.out) | exact HB.out)⟩
 ·rw [if_neg c2] at H
  have c2b0 : decide (a0_0 < 16) = false := decide_eq_false c2
  clear c2
  by_cases c5 : a0_0 > 128
  ·rw [if_pos c5] at H
   have c5b0 : decide (128 < a0_0) = true := decide_eq_true c5
   clear c5
   obtain rfl := Option.some.inj H
   go_enter Try.func30, Try.ntmps30
   go_wp2_with (first | ((with_reducible refine gate_dst (N := 1) rfl ?_); refine box_event ?hg (N := 1) ?hd (cs := #[.int .i64 a0_0, .int .i64 a0_1, .int .i64 a0_2]) (t := 23) ?hr ?_; (case hd => rfl); (case hg => rfl); (case hr => first | (go_simp; done) | (go_simp; rfl)); intro gb123 hg w6 hbox hb; have n0_ := Aside0.mk (below_step (by repeat (first | (with_reducible first | exact HB.out | apply bA | apply bN | apply bD) | exact HB.out)) hb); have n1_ := Aside0.mk (hbox); have n2_ := Aside0.mk ((by rw [hg]; exact (below_size (by repeat (first | (with_reducible first | exact HB.out | apply bA | apply bN | apply bD) | exact HB.out))) : w.heap.size ≤ gb123)); have n3_ := Aside0.mk ((by rw [hg]; exact (below_size (by repeat (first | (with_reducible first | exact HB.out | apply bA | apply bN | apply bD) | exact HB.out))) : w.heap.size ≤ gb123)); clear HB; have HB := n0_; have BK123 := n1_; have GW123 := n2_; have GE123 := n3_; clear n0_ n1_ n2_ n3_; clear hb hbox hg; have q_ := cells3 BK123.out; have hcz7_0 := q_.c0; have hcz7_1 := q_.c1; have hcz7_2 := q_.c2; have hfz7_0 := q_.f0; have hfz7_1 := q_.f1; have hfz7_2 := q_.f2; clear q_))
   go_ret
   exact ⟨by first | rfl | (simp [errW_none, errW_some] <;> rfl) | (simp [*, errW_none, errW_some] <;> rfl), by repeat (first | (with_reducible first | exact HB.out | apply bA | apply bN | apply bD | refine bS ?_ GE123.out) | exact HB.out)⟩
  ·rw [if_neg c5] at H
   have c5b0 : decide (128 < a0_0) = false := decide_eq_false c5
   clear c5
   by_cases c8 : a0_1 < 4
   ·rw [if_pos c8] at H
    have c8b0 : decide (a0_1 < 4) = true := decide_eq_true c8
    clear c8
    obtain rfl := Option.some.inj H
    go_enter Try.func30, Try.ntmps30
    go_wp2_with (first | ((with_reducible refine gate_dst (N := 1) rfl ?_); refine box_event ?hg (N := 1) ?hd (cs := #[.int .i64 a0_0, .int .i64 a0_1, .int .i64 a0_2]) (t := 23) ?hr ?_; (case hd => rfl); (case hg => rfl); (case hr => first | (go_simp; done) | (go_simp; rfl)); intro gb123 hg w9 hbox hb; have n0_ := Aside0.mk (below_step (by repeat (first | (with_reducible first | exact HB.out | apply bA | apply bN | apply bD) | exact HB.out)) hb); have n1_ := Aside0.mk (hbox); have n2_ := Aside0.mk ((by rw [hg]; exact (below_size (by repeat (first | (with_reducible first | exact HB.out | apply bA | apply bN | apply bD) | exact HB.out))) : w.heap.size ≤ gb123)); have n3_ := Aside0.mk ((by rw [hg]; exact (below_size (by repeat (first | (with_reducible first | exact HB.out | apply bA | apply bN | apply bD) | exact HB.out))) : w.heap.size ≤ gb123)); clear HB; have HB := n0_; have BK123 := n1_; have GW123 := n2_; have GE123 := n3_; clear n0_ n1_ n2_ n3_; clear hb hbox hg; have q_ := cells3 BK123.out; have hcz10_0 := q_.c0; have hcz10_1 := q_.c1; have hcz10_2 := q_.c2; have hfz10_0 := q_.f0; have hfz10_1 := q_.f1; have hfz10_2 := q_.f2; clear q_))
    go_ret
    exact ⟨by first | rfl | (simp [errW_none, errW_some] <;> rfl) | (simp [*, errW_none, errW_some] <;> rfl), by repeat (first | (with_reducible first | exact HB.out | apply bA | apply bN | apply bD | refine bS ?_ GE123.out) | exact HB.out)⟩
   ·rw [if_neg c8] at H
    have c8b0 : decide (a0_1 < 4) = false := decide_eq_false c8
    clear c8
    by_cases c11 : a0_1 > 64
    ·rw [if_pos c11] at H
     have c11b0 : decide (64 < a0_1) = true := decide_eq_true c11
     clear c11
     obtain rfl := Option.some.inj H
     go_enter Try.func30, Try.ntmps30
     go_wp2_with (first | ((with_reducible refine gate_dst (N := 1) rfl ?_); refine box_event ?hg (N := 1) ?hd (cs := #[.int .i64 a0_0, .int .i64 a0_1, .int .i64 a0_2]) (t := 23) ?hr ?_; (case hd => rfl); (case hg => rfl); (case hr => first | (go_simp; done) | (go_simp; rfl)); intro gb123 hg w12 hbox hb; have n0_ := Aside0.mk (below_step (by repeat (first | (with_reducible first | exact HB.out | apply bA | apply bN | apply bD) | exact HB.out)) hb); have n1_ := Aside0.mk (hbox); have n2_ := Aside0.mk ((by rw [hg]; exact (below_size (by repeat (first | (with_reducible first | exact HB.out | apply bA | apply bN | apply bD) | exact HB.out))) : w.heap.size ≤ gb123)); have n3_ := Aside0.mk ((by rw [hg]; exact (below_size (by repeat (first | (with_reducible first | exact HB.out | apply bA | apply bN | apply bD) | exact HB.out))) : w.heap.size ≤ gb123)); clear HB; have HB := n0_; have BK123 := n1_; have GW123 := n2_; have GE123 := n3_; clear n0_ n1_ n2_ n3_; clear hb hbox hg; have q_ := cells3 BK123.out; have hcz13_0 := q_.c0; have hcz13_1 := q_.c1; have hcz13_2 := q_.c2; have hfz13_0 := q_.f0; have hfz13_1 := q_.f1; have hfz13_2 := q_.f2; clear q_))
     go_ret
     exact ⟨by first | rfl | (simp [errW_none, errW_some] <;> rfl) | (simp [*, errW_none, errW_some] <;> rfl), by repeat (first | (with_reducible first | exact HB.out | apply bA | apply bN | apply bD | refine bS ?_ GE123.out) | exact HB.out)⟩
    ·rw [if_neg c11] at H
     have c11b0 : decide (64 < a0_1) = false := decide_eq_false c11
     clear c11
     by_cases c14 : (Int.tmod a0_1 4) = 0
     ·rw [if_pos c14] at H
      have c14b0 : ((Int.tmod a0_1 4) == 0) = true := beq_iff_eq.mpr c14
      have c14b1 : ((Int.tmod a0_1 4) != 0) = false := bne_eq_false_iff_eq.mpr c14
      clear c14
      by_cases c15 : a0_2 < 1
      ·rw [if_pos c15] at H
       have c15b0 : decide (a0_2 < 1) = true := decide_eq_true c15
       clear c15
       obtain rfl := Option.some.inj H
       go_enter Try.func30, Try.ntmps30
       go_wp2_with (first | ((with_reducible refine gate_dst (N := 1) rfl ?_); refine box_event ?hg (N := 1) ?hd (cs := #[.int .i64 a0_0, .int .i64 a0_1, .int .i64 a0_2]) (t := 23) ?hr ?_; (case hd => rfl); (case hg => rfl); (case hr => first | (go_simp; done) | (go_simp; rfl)); intro gb123 hg w16 hbox hb; have n0_ := Aside0.mk (below_step (by repeat (first | (with_reducible first | exact HB.out | apply bA | apply bN | apply bD) | exact HB.out)) hb); have n1_ := Aside0.mk (hbox); have n2_ := Aside0.mk ((by rw [hg]; exact (below_size (by repeat (first | (with_reducible first | exact HB.out | apply bA | apply bN | apply bD) | exact HB.out))) : w.heap.size ≤ gb123)); have n3_ := Aside0.mk ((by rw [hg]; exact (below_size (by repeat (first | (with_reducible first | exact HB.out | apply bA | apply bN | apply bD) | exact HB.out))) : w.heap.size ≤ gb123)); clear HB; have HB := n0_; have BK123 := n1_; have GW123 := n2_; have GE123 := n3_; clear n0_ n1_ n2_ n3_; clear hb hbox hg; have q_ := cells3 BK123.out; have hcz17_0 := q_.c0; have hcz17_1 := q_.c1; have hcz17_2 := q_.c2; have hfz17_0 := q_.f0; have hfz17_1 := q_.f1; have hfz17_2 := q_.f2; clear q_))
       go_ret
       exact ⟨by first | rfl | (simp [errW_none, errW_some] <;> rfl) | (simp [*, errW_none, errW_some] <;> rfl), by repeat (first | (with_reducible first | exact HB.out | apply bA | apply bN | apply bD | refine bS ?_ GE123.out) | exact HB.out)⟩
      ·rw [if_neg c15] at H
       have c15b0 : decide (a0_2 < 1) = false := decide_eq_false c15
       clear c15
       by_cases c18 : a0_2 > 16
       ·rw [if_pos c18] at H
        have c18b0 : decide (16 < a0_2) = true := decide_eq_true c18
        clear c18
        obtain rfl := Option.some.inj H
        go_enter Try.func30, Try.ntmps30
        go_wp2_with (first | ((with_reducible refine gate_dst (N := 1) rfl ?_); refine box_event ?hg (N := 1) ?hd (cs := #[.int .i64 a0_0, .int .i64 a0_1, .int .i64 a0_2]) (t := 23) ?hr ?_; (case hd => rfl); (case hg => rfl); (case hr => first | (go_simp; done) | (go_simp; rfl)); intro gb123 hg w19 hbox hb; have n0_ := Aside0.mk (below_step (by repeat (first | (with_reducible first | exact HB.out | apply bA | apply bN | apply bD) | exact HB.out)) hb); have n1_ := Aside0.mk (hbox); have n2_ := Aside0.mk ((by rw [hg]; exact (below_size (by repeat (first | (with_reducible first | exact HB.out | apply bA | apply bN | apply bD) | exact HB.out))) : w.heap.size ≤ gb123)); have n3_ := Aside0.mk ((by rw [hg]; exact (below_size (by repeat (first | (with_reducible first | exact HB.out | apply bA | apply bN | apply bD) | exact HB.out))) : w.heap.size ≤ gb123)); clear HB; have HB := n0_; have BK123 := n1_; have GW123 := n2_; have GE123 := n3_; clear n0_ n1_ n2_ n3_; clear hb hbox hg; have q_ := cells3 BK123.out; have hcz20_0 := q_.c0; have hcz20_1 := q_.c1; have hcz20_2 := q_.c2; have hfz20_0 := q_.f0; have hfz20_1 := q_.f1; have hfz20_2 := q_.f2; clear q_))
        go_ret
        exact ⟨by first | rfl | (simp [errW_none, errW_some] <;> rfl) | (simp [*, errW_none, errW_some] <;> rfl), by repeat (first | (with_reducible first | exact HB.out | apply bA | apply bN | apply bD | refine bS ?_ GE123.out) | exact HB.out)⟩
       ·rw [if_neg c18] at H
        have c18b0 : decide (16 < a0_2) = false := decide_eq_false c18
        clear c18
        by_cases c21 : (wrap64 ((wrap64 (a0_0 - 1)) - (wrap64 (Int.tdiv a0_1 4)))) ≥ 4
        ·rw [if_pos c21] at H
         have c21b0 : decide (4 ≤ (wrap64 ((wrap64 (a0_0 - 1)) - (wrap64 (Int.tdiv a0_1 4))))) = true := decide_eq_true c21
         clear c21
         obtain rfl := Option.some.inj H
         go_enter Try.func30, Try.ntmps30
         go_wp2_with (first | ((with_reducible refine gate_dst (N := 1) rfl ?_); refine box_event ?hg (N := 1) ?hd (cs := #[.int .i64 a0_0, .int .i64 a0_1, .int .i64 a0_2]) (t := 23) ?hr ?_; (case hd => rfl); (case hg => rfl); (case hr => first | (go_simp; done) | (go_simp; rfl)); intro gb123 hg w22 hbox hb; have n0_ := Aside0.mk (below_step (by repeat (first | (with_reducible first | exact HB.out | apply bA | apply bN | apply bD) | exact HB.out)) hb); have n1_ := Aside0.mk (hbox); have n2_ := Aside0.mk ((by rw [hg]; exact (below_size (by repeat (first | (with_reducible first | exact HB.out | apply bA | apply bN | apply bD) | exact HB.out))) : w.heap.size ≤ gb123)); have n3_ := Aside0.mk ((by rw [hg]; exact (below_size (by repeat (first | (with_reducible first | exact HB.out | apply bA | apply bN | apply bD) | exact HB.out))) : w.heap.size ≤ gb123)); clear HB; have HB := n0_; have BK123 := n1_; have GW123 := n2_; have GE123 := n3_; clear n0_ n1_ n2_ n3_; clear hb hbox hg; have q_ := cells3 BK123.out; have hcz23_0 := q_.c0; have hcz23_1 := q_.c1; have hcz23_2 := q_.c2; have hfz23_0 := q_.f0; have hfz23_1 := q_.f1; have hfz23_2 := q_.f2; clear q_))
         go_ret
         exact ⟨by first | rfl | (simp [errW_none, errW_some] <;> rfl) | (simp [*, errW_none, errW_some] <;> rfl), by repeat (first | (with_reducible first | exact HB.out | apply bA | apply bN | apply bD | refine bS ?_ GE123.out) | exact HB.out)⟩
        ·rw [if_neg c21] at H
         have c21b0 : decide (4 ≤ (wrap64 ((wrap64 (a0_0 - 1)) - (wrap64 (Int.tdiv a0_1 4))))) = false := decide_eq_false c21
         clear c21
         obtain rfl := Option.some.inj H
         go_enter Try.func30, Try.ntmps30
         go_wp2_with (first | ((with_reducible refine gate_dst (N := 1) rfl ?_); refine box_event ?hg (N := 1) ?hd (cs := #[.int .i64 a0_0, .int .i64 a0_1, .int .i64 a0_2]) (t := 23) ?hr ?_; (case hd => rfl); (case hg => rfl); (case hr => first | (go_simp; done) | (go_simp; rfl)); intro gb123 hg w24 hbox hb; have n0_ := Aside0.mk (below_step (by repeat (first | (with_reducible first | exact HB.out | apply bA | apply bN | apply bD) | exact HB.out)) hb); have n1_ := Aside0.mk (hbox); have n2_ := Aside0.mk ((by rw [hg]; exact (below_size (by repeat (first | (with_reducible first | exact HB.out | apply bA | apply bN | apply bD) | exact HB.out))) : w.heap.size ≤ gb123)); have n3_ := Aside0.mk ((by rw [hg]; exact (below_size (by repeat (first | (with_reducible first | exact HB.out | apply bA | apply bN | apply bD) | exact HB.out))) : w.heap.size ≤ gb123)); clear HB; have HB := n0_; have BK123 := n1_; have GW123 := n2_; have GE123 := n3_; clear n0_ n1_ n2_ n3_; clear hb hbox hg; have q_ := cells3 BK123.out; have hcz25_0 := q_.c0; have hcz25_1 := q_.c1; have hcz25_2 := q_.c2; have hfz25_0 := q_.f0; have hfz25_1 := q_.f1; have hfz25_2 := q_.f2; clear q_))
         go_ret
         exact ⟨by first | rfl | (simp [errW_none, errW_some] <;> rfl) | (simp [*, errW_none, errW_some] <;> rfl), by repeat (first | (with_reducible first | exact HB.out | apply bA | apply bN | apply bD | refine bS ?_ GE123.out) | exact HB.out)⟩
     ·rw [if_neg c14] at H
      have c14b0 : ((Int.tmod a0_1 4) == 0) = false := beq_eq_false_iff_ne.mpr c14
      have c14b1 : ((Int.tmod a0_1 4) != 0) = true := bne_iff_ne.mpr c14
      obtain rfl := Option.some.inj H
      go_enter Try.func30, Try.ntmps30
      go_wp2_with (first | ((with_reducible refine gate_dst (N := 1) rfl ?_); refine box_event ?hg (N := 1) ?hd (cs := #[.int .i64 a0_0, .int .i64 a0_1, .int .i64 a0_2]) (t := 23) ?hr ?_; (case hd => rfl); (case hg => rfl); (case hr => first | (go_simp; done) | (go_simp; rfl)); intro gb123 hg w26 hbox hb; have n0_ := Aside0.mk (below_step (by repeat (first | (with_reducible first | exact HB.out | apply bA | apply bN | apply bD) | exact HB.out)) hb); have n1_ := Aside0.mk (hbox); have n2_ := Aside0.mk ((by rw [hg]; exact (below_size (by repeat (first | (with_reducible first | exact HB.out | apply bA | apply bN | apply bD) | exact HB.out))) : w.heap.size ≤ gb123)); have n3_ := Aside0.mk ((by rw [hg]; exact (below_size (by repeat (first | (with_reducible first | exact HB.out | apply bA | apply bN | apply bD) | exact HB.out))) : w.heap.size ≤ gb123)); clear HB; have HB := n0_; have BK123 := n1_; have GW123 := n2_; have GE123 := n3_; clear n0_ n1_ n2_ n3_; clear hb hbox hg; have q_ := cells3 BK123.out; have hcz27_0 := q_.c0; have hcz27_1 := q_.c1; have hcz27_2 := q_.c2; have hfz27_0 := q_.f0; have hfz27_1 := q_.f1; have hfz27_2 := q_.f2; clear q_))
      go_ret
      exact ⟨by first | rfl | (simp [errW_none, errW_some] <;> rfl) | (simp [*, errW_none, errW_some] <;> rfl), by repeat (first | (with_reducible first | exact HB.out | apply bA | apply bN | apply bD | refine bS ?_ GE123.out) | exact HB.out)⟩

/-! ### leveeref05_Get: function 42 -/
def leveeref05_Get.f (l0 : List Int) (a1 : Int) : Option (Bool) := if a1 ≥ 0 then (if (wrap64 (Int.tdiv a1 8)) < (l0.length : Int) then (if 0 ≤ (wrap64 (Int.tdiv a1 8)) then (if 0 ≤ (IntKind.u64.wrap (Int.tmod a1 8)) then (some ((Go.bits .and .u8 (shr .u8 (rd l0 (wrap64 (Int.tdiv a1 8))) (IntKind.u64.wrap (Int.tmod a1 8))) 1) == 1)) else (none)) else (none)) else (some false)) else (some false)
end Go.Proofs.Ytonkgfgciegknaa.P
