-- PRINTED by print.py (a twelfth state) out of the translation. Not trusted: Lean checks it.
import Derived.Test.YtonkgfgciegknaaPx0
import Derived.Test.YtonkgfgciegknaaPx4
import Derived.Test.YtonkgfgciegknaaHand
import Derived.Test.YtonkgfgciegknaaCells
namespace Go.Proofs.Ytonkgfgciegknaa.P
open Go.RowKit Go.Proofs.YtonkgfgciegknaaW.PrintWords Go.Proofs.YtonkgfgciegknaaW.PrintLast Go.Proofs.YtonkgfgciegknaaW.PrintMore
attribute [local go_sem] max2_int min2_int max_two min_two max_three min_three max_four min_four   -- for this text's walks alone
set_option linter.unusedVariables false
set_option linter.unusedSimpArgs false

/-! ### leveeref06_Right: function 17 -/
mutual
def leveeref06_Right.j0 : Nat → Bool → Int → Int → Int → Int → List Int → List Int → Option (Bool)
 | 0, _, _, _, _, _, _, _ => none
 | k + 1, x34, x126000, x126001, x126002, x127000, x127001, x127002 => if x34 = true then (some false) else (leveeref06_Right.l0 k true 0 x126000 x126001 x126002 x127000 x127001 x127002)
def leveeref06_Right.l0 : Nat → Bool → Int → Int → Int → Int → Int → List Int → List Int → Option (Bool)
 | 0, _, _, _, _, _, _, _, _ => none
 | k + 1, x5, x6, x126000, x126001, x126002, x127000, x127001, x127002 => if x6 < 128 then (if x6 < (wrap64 (1 + (wrap64 (Int.tdiv x126001 4)))) then ((leveeref05_Get.f x127001 x6).bind fun t128 => (if t128 = true then (if x6 ≥ x126000 then ((leveeref05_Get.f x127001 x6).bind fun t129 => (if t129 = true then (leveeref06_Right.l0 k false (wrap64 (x6 + 1)) x126000 x126001 x126002 x127000 x127001 x127002) else (leveeref06_Right.l0 k x5 (wrap64 (x6 + 1)) x126000 x126001 x126002 x127000 x127001 x127002))) else (leveeref06_Right.l0 k x5 (wrap64 (x6 + 1)) x126000 x126001 x126002 x127000 x127001 x127002)) else (leveeref06_Right.l0 k false (wrap64 (x6 + 1)) x126000 x126001 x126002 x127000 x127001 x127002))) else (if x6 ≥ x126000 then ((leveeref05_Get.f x127001 x6).bind fun t130 => (if t130 = true then (leveeref06_Right.l0 k false (wrap64 (x6 + 1)) x126000 x126001 x126002 x127000 x127001 x127002) else (leveeref06_Right.l0 k x5 (wrap64 (x6 + 1)) x126000 x126001 x126002 x127000 x127001 x127002))) else (leveeref06_Right.l0 k x5 (wrap64 (x6 + 1)) x126000 x126001 x126002 x127000 x127001 x127002))) else (leveeref06_Right.l1 k x5 0 x126000 x126001 x126002 x127000 x127001 x127002)
def leveeref06_Right.l1 : Nat → Bool → Int → Int → Int → Int → Int → List Int → List Int → Option (Bool)
 | 0, _, _, _, _, _, _, _, _ => none
 | k + 1, x5, x7, x126000, x126001, x126002, x127000, x127001, x127002 => if x7 < 64 then (if x7 ≥ x126001 then ((leveeref05_Get.f x127002 x7).bind fun t131 => (if t131 = true then (leveeref06_Right.l1 k false (wrap64 (x7 + 1)) x126000 x126001 x126002 x127000 x127001 x127002) else (if x127000 = 0 then (if x7 < 2 then ((leveeref05_Get.f x127002 x7).bind fun t132 => (if t132 = true then (leveeref06_Right.l1 k x5 (wrap64 (x7 + 1)) x126000 x126001 x126002 x127000 x127001 x127002) else (leveeref06_Right.l1 k false (wrap64 (x7 + 1)) x126000 x126001 x126002 x127000 x127001 x127002))) else (leveeref06_Right.l1 k x5 (wrap64 (x7 + 1)) x126000 x126001 x126002 x127000 x127001 x127002)) else (leveeref06_Right.l1 k x5 (wrap64 (x7 + 1)) x126000 x126001 x126002 x127000 x127001 x127002)))) else (if x127000 = 0 then (if x7 < 2 then ((leveeref05_Get.f x127002 x7).bind fun t133 => (if t133 = true then (leveeref06_Right.l1 k x5 (wrap64 (x7 + 1)) x126000 x126001 x126002 x127000 x127001 x127002) else (leveeref06_Right.l1 k false (wrap64 (x7 + 1)) x126000 x126001 x126002 x127000 x127001 x127002))) else (leveeref06_Right.l1 k x5 (wrap64 (x7 + 1)) x126000 x126001 x126002 x127000 x127001 x127002)) else (leveeref06_Right.l1 k x5 (wrap64 (x7 + 1)) x126000 x126001 x126002 x127000 x127001 x127002))) else (some x5)
end
def leveeref06_Right.f (k : Nat) (a0_0 : Int) (a0_1 : Int) (a0_2 : Int) (a1_0 : Int) (l1_1 : List Int) (l1_2 : List Int) : Option (Bool) := (leveeref03_Right.f a0_0 a0_1 a0_2).bind fun t127 => (if t127 = true then (if a1_0 < 0 then (leveeref06_Right.j0 k true a0_0 a0_1 a0_2 a1_0 l1_1 l1_2) else (if a1_0 ≥ a0_2 then (leveeref06_Right.j0 k true a0_0 a0_1 a0_2 a1_0 l1_1 l1_2) else (if (l1_1.length : Int) = 16 then (leveeref06_Right.j0 k ((l1_2.length : Int) != 8) a0_0 a0_1 a0_2 a1_0 l1_1 l1_2) else (leveeref06_Right.j0 k true a0_0 a0_1 a0_2 a1_0 l1_1 l1_2)))) else (leveeref06_Right.j0 k true a0_0 a0_1 a0_2 a1_0 l1_1 l1_2))
set_option maxHeartbeats 8000000 in
set_option maxRecDepth 100000 in
theorem leveeref06_Right.calls (k : Nat) (a0_0 : Int) (a0_1 : Int) (a0_2 : Int) (a1_0 : Int) (A1_1 : Option Addr) (c1_1 : Nat) (l1_1 : List Int) (A1_2 : Option Addr) (c1_2 : Nat) (l1_2 : List Int) (r : Bool) (w : World) (hr1_1 : Kd.C (Kd.int .u8) w A1_1 l1_1.length l1_1) (hc1_1 : l1_1.length ≤ c1_1) (hr1_2 : Kd.C (Kd.int .u8) w A1_2 l1_2.length l1_2) (hc1_2 : l1_2.length ≤ c1_2) (h : leveeref06_Right.f k a0_0 a0_1 a0_2 a1_0 l1_1 l1_2 = some r) :
  Calls Try.prog 17 #[.agg #[.int .i64 a0_0, .int .i64 a0_1, .int .i64 a0_2], .agg #[.int .i64 a1_0, .slice A1_1 l1_1.length c1_1, .slice A1_2 l1_2.length c1_2]] w fun e w' => e = .returned (.bool r) ∧ Below w.heap.size w w' := by
 have hu23 := Try.underlying23
 have hu31 := Try.underlying31
 have HR1_1 := Aside0.mk hr1_1
 have HC1_1 := Aside0.mk hc1_1
 clear hr1_1 hc1_1
 have HR1_2 := Aside0.mk hr1_2
 have HC1_2 := Aside0.mk hc1_2
 clear hr1_2 hc1_2
 have HB := Aside0.mk (Below.refl w.heap.size w)
 have H : ((leveeref03_Right.f a0_0 a0_1 a0_2).bind fun t127 => (if t127 = true then (if a1_0 < 0 then (leveeref06_Right.j0 k true a0_0 a0_1 a0_2 a1_0 l1_1 l1_2) else (if a1_0 ≥ a0_2 then (leveeref06_Right.j0 k true a0_0 a0_1 a0_2 a1_0 l1_1 l1_2) else (if (l1_1.length : Int) = 16 then (leveeref06_Right.j0 k ((l1_2.length : Int) != 8) a0_0 a0_1 a0_2 a1_0 l1_1 l1_2) else (leveeref06_Right.j0 k true a0_0 a0_1 a0_2 a1_0 l1_1 l1_2)))) else (leveeref06_Right.j0 k true a0_0 a0_1 a0_2 a1_0 l1_1 l1_2))) = some r := h
 clear h
 have HC3 := Aside0.mk H
 clear H
 go_enter Try.func17, Try.ntmps17
 go_upto_region 1 with (first | ((with_reducible refine gate_dst (N := 2) rfl ?_); (try (refine gate_guard (by rfl) ?_; dsimp only)); refine box_event ?hg (N := 2) ?hd (cs := #[.int .i64 a0_0, .int .i64 a0_1, .int .i64 a0_2]) (t := 23) ?hr ?_; (case hd => rfl); (case hg => rfl); (case hr => first | (go_simp; done) | (go_simp; rfl)); intro gb125 hg w4 hbox hb; have n0_ := Aside0.mk (below_step (by repeat (first | (with_reducible first | exact HB.out | apply bA | apply bN | apply bD) | exact HB.out)) hb); have n1_ := Aside0.mk (hbox); have n2_ := Aside0.mk ((by rw [hg]; exact (below_size (by repeat (first | (with_reducible first | exact HB.out | apply bA | apply bN | apply bD) | exact HB.out))) : w.heap.size ≤ gb125)); have n3_ := Aside0.mk ((by rw [hg]; exact (below_size (by repeat (first | (with_reducible first | exact HB.out | apply bA | apply bN | apply bD) | exact HB.out))) : w.heap.size ≤ gb125)); clear HB; have HB := n0_; have BK125 := n1_; have GW125 := n2_; have GE125 := n3_; clear n0_ n1_ n2_ n3_; clear hb hbox hg) | ((with_reducible refine gate_dst (N := 3) rfl ?_); (try (refine gate_guard (by rfl) ?_; dsimp only)); refine box_event ?hg (N := 3) ?hd (cs := #[.int .i64 a1_0, .slice A1_1 l1_1.length c1_1, .slice A1_2 l1_2.length c1_2]) (t := 31) ?hr ?_; (case hd => rfl); (case hg => rfl); (case hr => first | (go_simp; done) | (go_simp; rfl)); intro gb126 hg w5 hbox hb; have n0_ := Aside0.mk (blk_below (g := gb125) (o := .cells #[.int .i64 a0_0, .int .i64 a0_1, .int .i64 a0_2] 23 (0, 0)) (by (with_reducible repeat first | apply kN | apply kd | apply ka); exact BK125.out) hb); have n1_ := Aside0.mk (below_step (by repeat (first | (with_reducible first | exact HB.out | apply bA | apply bN | apply bD | refine bS ?_ GE125.out) | exact HB.out)) hb); have n2_ := Aside0.mk (hbox); have n3_ := Aside0.mk ((by rw [hg]; exact (below_size (by repeat (first | (with_reducible first | exact HB.out | apply bA | apply bN | apply bD | refine bS ?_ GE125.out) | exact HB.out))) : w.heap.size ≤ gb126)); have n4_ := Aside0.mk ((by rw [hg]; exact (below_size (by repeat (first | (with_reducible first | exact HB.out | apply bA | apply bN | apply bD | refine bS ?_ GE125.out) | exact HB.out))) : w.heap.size ≤ gb126)); have n5_ := Aside0.mk ((by rw [hg]; exact Nat.ne_of_lt (blk_lt (g := gb125) (o := .cells #[.int .i64 a0_0, .int .i64 a0_1, .int .i64 a0_2] 23 (0, 0)) (by (with_reducible repeat first | apply kN | apply kd | apply ka); exact BK125.out)) : gb125 ≠ gb126)); have n6_ := Aside0.mk ((by rw [hg]; exact Nat.ne_of_gt (blk_lt (g := gb125) (o := .cells #[.int .i64 a0_0, .int .i64 a0_1, .int .i64 a0_2] 23 (0, 0)) (by (with_reducible repeat first | apply kN | apply kd | apply ka); exact BK125.out)) : gb126 ≠ gb125)); clear BK125; clear HB; have BK125 := n0_; have HB := n1_; have BK126 := n2_; have GW126 := n3_; have GE126 := n4_; have NB125_126 := n5_; have NB126_125 := n6_; clear n0_ n1_ n2_ n3_ n4_ n5_ n6_; clear hb hbox hg))
 (try simp only [Act.put, List.setIfInBounds_toArray, List.set_cons_zero, List.set_cons_succ])
 go_cut [34] (fun v34 wc => ∃ (kq : Nat) (x34_2 : Bool), v34 = .bool x34_2 ∧ Aside0 (leveeref06_Right.j0 kq x34_2 a0_0 a0_1 a0_2 a1_0 l1_1 l1_2 = some r) ∧ Aside0 (kq ≤ k) ∧ Aside0 (wc.heap[gb125]? = some (.cells #[.int .i64 a0_0, .int .i64 a0_1, .int .i64 a0_2] 23 (0, 0))) ∧ Aside0 (wc.heap[gb126]? = some (.cells #[.int .i64 a1_0, (.slice A1_1 l1_1.length c1_1), (.slice A1_2 l1_2.length c1_2)] 31 (0, 0))) ∧ Aside0 (Below w.heap.size w wc))
 case first =>
  have H := HC3.out
  clear HC3
  replace H := Option.bind_eq_some_iff.mp H
  obtain ⟨t127, A60, H⟩ := H
  replace H : (if t127 = true then (if a1_0 < 0 then (leveeref06_Right.j0 k true a0_0 a0_1 a0_2 a1_0 l1_1 l1_2) else (if a1_0 ≥ a0_2 then (leveeref06_Right.j0 k true a0_0 a0_1 a0_2 a1_0 l1_1 l1_2) else (if (l1_1.length : Int) = 16 then (leveeref06_Right.j0 k ((l1_2.length : Int) != 8) a0_0 a0_1 a0_2 a1_0 l1_1 l1_2) else (leveeref06_Right.j0 k true a0_0 a0_1 a0_2 a1_0 l1_1 l1_2)))) else (leveeref06_Right.j0 k true a0_0 a0_1 a0_2 a1_0 l1_1 l1_2)) = some r := H
  have A6 := Aside0.mk A60
  clear A60
  by_cases c7 : t127 = true
  ·subst c7
   have H1 : (if a1_0 < 0 then (leveeref06_Right.j0 k true a0_0 a0_1 a0_2 a1_0 l1_1 l1_2) else (if a1_0 ≥ a0_2 then (leveeref06_Right.j0 k true a0_0 a0_1 a0_2 a1_0 l1_1 l1_2) else (if (l1_1.length : Int) = 16 then (leveeref06_Right.j0 k ((l1_2.length : Int) != 8) a0_0 a0_1 a0_2 a1_0 l1_1 l1_2) else (leveeref06_Right.j0 k true a0_0 a0_1 a0_2 a1_0 l1_1 l1_2)))) = some r := by rw [if_pos rfl] at H; exact H
   clear H
   have H := H1
   clear H1
   by_cases c8 : a1_0 < 0
   ·rw [if_pos c8] at H
    have c8b0 : decide (a1_0 < 0) = true := decide_eq_true c8
    clear c8
    (first | rw [c8b0] | (simp only [i64_w, i32_w]; rw [c8b0]) | skip)
    have H' := Aside0.mk H
    clear H
    have hnb9 := NB125_126.out
    have hnc9 := NB126_125.out
    have q_ := cells3 BK125.out; have hcz10_0 := q_.c0; have hcz10_1 := q_.c1; have hcz10_2 := q_.c2; have hfz10_0 := q_.f0; have hfz10_1 := q_.f1; have hfz10_2 := q_.f2; clear q_
    go_wp2_with (first | ((with_reducible refine gate_callee (f := 30) rfl ?_); refine goesL_ (some 9) rfl rfl Try.func30 (by kernel_rfl) rfl #[.agg #[.int .i64 a0_0, .int .i64 a0_1, .int .i64 a0_2]] rfl (by (try simp only [List.map_toArray, List.map_cons, List.map_nil]); first | done | rfl | (simp only [List.length_drop, List.length_take]; rfl)) ?_; (with_reducible refine (leveeref03_Right.calls a0_0 a0_1 a0_2 true _ A6.out).mono ?_); rintro e w11 ⟨rfl, hb⟩; refine ⟨_, rfl, ?_⟩; have n0_ := Aside0.mk (blk_below (g := gb125) (o := .cells #[.int .i64 a0_0, .int .i64 a0_1, .int .i64 a0_2] 23 (0, 0)) (by (with_reducible repeat first | apply kN | apply kd | apply ka); exact BK125.out) hb); have n1_ := Aside0.mk (blk_below (g := gb126) (o := .cells #[.int .i64 a1_0, .slice A1_1 l1_1.length c1_1, .slice A1_2 l1_2.length c1_2] 31 (0, 0)) (by (with_reducible repeat first | apply kN | apply kd | apply ka); exact BK126.out) hb); have n2_ := Aside0.mk (below_step (by repeat (first | (with_reducible first | exact HB.out | apply bA | apply bN | apply bD | refine bS ?_ GE125.out | refine bS ?_ GE126.out) | exact HB.out)) hb); clear BK125; clear BK126; clear HB; have BK125 := n0_; have BK126 := n1_; have HB := n2_; clear n0_ n1_ n2_; (try clear hb); (try clear hb2); (try clear hk); (try clear hi); have q_ := cells3 BK126.out; have hcz12_0 := q_.c0; have hcz12_1 := q_.c1; have hcz12_2 := q_.c2; have hfz12_0 := q_.f0; have hfz12_1 := q_.f1; have hfz12_2 := q_.f2; clear q_))
    go_meet
    case rel => exact ⟨_, (true), (by first | rfl | (simp; done) | (simp [*]; done)), H', ⟨by first | omega | exact Nat.le_refl _⟩, ⟨by (with_reducible repeat first | apply kN | apply kd | apply ka); exact BK125.out⟩, ⟨by (with_reducible repeat first | apply kN | apply kd | apply ka); exact BK126.out⟩, ⟨by repeat (first | (with_reducible first | exact HB.out | apply bA | apply bN | apply bD | refine bS ?_ GE125.out | refine bS ?_ GE126.out) | exact HB.out)⟩⟩
   ·rw [if_neg c8] at H
    have c8b0 : decide (a1_0 < 0) = false := decide_eq_false c8
    clear c8
    (first | rw [c8b0] | (simp only [i64_w, i32_w]; rw [c8b0]) | skip)
    by_cases c13 : a1_0 ≥ a0_2
    ·rw [if_pos c13] at H
     have c13b0 : decide (a0_2 ≤ a1_0) = true := decide_eq_true c13
     clear c13
     have H' := Aside0.mk H
     clear H
     have hnb14 := NB125_126.out
     have hnc14 := NB126_125.out
     have q_ := cells3 BK125.out; have hcz15_0 := q_.c0; have hcz15_1 := q_.c1; have hcz15_2 := q_.c2; have hfz15_0 := q_.f0; have hfz15_1 := q_.f1; have hfz15_2 := q_.f2; clear q_
     go_wp2_with (first | ((with_reducible refine gate_callee (f := 30) rfl ?_); refine goesL_ (some 9) rfl rfl Try.func30 (by kernel_rfl) rfl #[.agg #[.int .i64 a0_0, .int .i64 a0_1, .int .i64 a0_2]] rfl (by (try simp only [List.map_toArray, List.map_cons, List.map_nil]); first | done | rfl | (simp only [List.length_drop, List.length_take]; rfl)) ?_; (with_reducible refine (leveeref03_Right.calls a0_0 a0_1 a0_2 true _ A6.out).mono ?_); rintro e w16 ⟨rfl, hb⟩; refine ⟨_, rfl, ?_⟩; have n0_ := Aside0.mk (blk_below (g := gb125) (o := .cells #[.int .i64 a0_0, .int .i64 a0_1, .int .i64 a0_2] 23 (0, 0)) (by (with_reducible repeat first | apply kN | apply kd | apply ka); exact BK125.out) hb); have n1_ := Aside0.mk (blk_below (g := gb126) (o := .cells #[.int .i64 a1_0, .slice A1_1 l1_1.length c1_1, .slice A1_2 l1_2.length c1_2] 31 (0, 0)) (by (with_reducible repeat first | apply kN | apply kd | apply ka); exact BK126.out) hb); have n2_ := Aside0.mk (below_step (by repeat (first | (with_reducible first | exact HB.out | apply bA | apply bN | apply bD | refine bS ?_ GE125.out | refine bS ?_ GE126.out) | exact HB.out)) hb); clear BK125; clear BK126; clear HB; have BK125 := n0_; have BK126 := n1_; have HB := n2_; clear n0_ n1_ n2_; (try clear hb); (try clear hb2); (try clear hk); (try clear hi); have q_ := cells3 BK126.out; have hcz17_0 := q_.c0; have hcz17_1 := q_.c1; have hcz17_2 := q_.c2; have hfz17_0 := q_.f0; have hfz17_1 := q_.f1; have hfz17_2 := q_.f2; clear q_; have q_ := cells3 BK125.out; have hcz18_0 := q_.c0; have hcz18_1 := q_.c1; have hcz18_2 := q_.c2; have hfz18_0 := q_.f0; have hfz18_1 := q_.f1; have hfz18_2 := q_.f2; clear q_))
     go_meet
     case rel => exact ⟨_, (true), (by first | rfl | (simp; done) | (simp [*]; done)), H', ⟨by first | omega | exact Nat.le_refl _⟩, ⟨by (with_reducible repeat first | apply kN | apply kd | apply ka); exact BK125.out⟩, ⟨by (with_reducible repeat first | apply kN | apply kd | apply ka); exact BK126.out⟩, ⟨by repeat (first | (with_reducible first | exact HB.out | apply bA | apply bN | apply bD | refine bS ?_ GE125.out | refine bS ?_ GE126.out) | exact HB.out)⟩⟩
    ·rw [if_neg c13] at H
     have c13b0 : decide (a0_2 ≤ a1_0) = false := decide_eq_false c13
     clear c13
     by_cases c19 : (l1_1.length : Int) = 16
     ·rw [if_pos c19] at H
      have c19b0 : ((l1_1.length : Int) == 16) = true := beq_iff_eq.mpr c19
      have c19b1 : ((l1_1.length : Int) != 16) = false := bne_eq_false_iff_eq.mpr c19
      clear c19
      have H' := Aside0.mk H
      clear H
      have hnb20 := NB125_126.out
      have hnc20 := NB126_125.out
      have q_ := cells3 BK125.out; have hcz21_0 := q_.c0; have hcz21_1 := q_.c1; have hcz21_2 := q_.c2; have hfz21_0 := q_.f0; have hfz21_1 := q_.f1; have hfz21_2 := q_.f2; clear q_
      go_wp2_with (first | ((with_reducible refine gate_callee (f := 30) rfl ?_); refine goesL_ (some 9) rfl rfl Try.func30 (by kernel_rfl) rfl #[.agg #[.int .i64 a0_0, .int .i64 a0_1, .int .i64 a0_2]] rfl (by (try simp only [List.map_toArray, List.map_cons, List.map_nil]); first | done | rfl | (simp only [List.length_drop, List.length_take]; rfl)) ?_; (with_reducible refine (leveeref03_Right.calls a0_0 a0_1 a0_2 true _ A6.out).mono ?_); rintro e w22 ⟨rfl, hb⟩; refine ⟨_, rfl, ?_⟩; have n0_ := Aside0.mk (blk_below (g := gb125) (o := .cells #[.int .i64 a0_0, .int .i64 a0_1, .int .i64 a0_2] 23 (0, 0)) (by (with_reducible repeat first | apply kN | apply kd | apply ka); exact BK125.out) hb); have n1_ := Aside0.mk (blk_below (g := gb126) (o := .cells #[.int .i64 a1_0, .slice A1_1 l1_1.length c1_1, .slice A1_2 l1_2.length c1_2] 31 (0, 0)) (by (with_reducible repeat first | apply kN | apply kd | apply ka); exact BK126.out) hb); have n2_ := Aside0.mk (below_step (by repeat (first | (with_reducible first | exact HB.out | apply bA | apply bN | apply bD | refine bS ?_ GE125.out | refine bS ?_ GE126.out) | exact HB.out)) hb); clear BK125; clear BK126; clear HB; have BK125 := n0_; have BK126 := n1_; have HB := n2_; clear n0_ n1_ n2_; (try clear hb); (try clear hb2); (try clear hk); (try clear hi); have q_ := cells3 BK126.out; have hcz23_0 := q_.c0; have hcz23_1 := q_.c1; have hcz23_2 := q_.c2; have hfz23_0 := q_.f0; have hfz23_1 := q_.f1; have hfz23_2 := q_.f2; clear q_; have q_ := cells3 BK125.out; have hcz24_0 := q_.c0; have hcz24_1 := q_.c1; have hcz24_2 := q_.c2; have hfz24_0 := q_.f0; have hfz24_1 := q_.f1; have hfz24_2 := q_.f2; clear q_))
      go_meet
      case rel => exact ⟨_, (((l1_2.length : Int) != 8)), (by first | rfl | (simp; done) | (simp [*]; done)), H', ⟨by first | omega | exact Nat.le_refl _⟩, ⟨by (with_reducible repeat first | apply kN | apply kd | apply ka); exact BK125.out⟩, ⟨by (with_reducible repeat first | apply kN | apply kd | apply ka); exact BK126.out⟩, ⟨by repeat (first | (with_reducible first | exact HB.out | apply bA | apply bN | apply bD | refine bS ?_ GE125.out | refine bS ?_ GE126.out) | exact HB.out)⟩⟩
     ·rw [if_neg c19] at H
      have c19b0 : ((l1_1.length : Int) == 16) = false := beq_eq_false_iff_ne.mpr c19
      have c19b1 : ((l1_1.length : Int) != 16) = true := bne_iff_ne.mpr c19
      have H' := Aside0.mk H
      clear H
      have hnb25 := NB125_126.out
      have hnc25 := NB126_125.out
      have q_ := cells3 BK125.out; have hcz26_0 := q_.c0; have hcz26_1 := q_.c1; have hcz26_2 := q_.c2; have hfz26_0 := q_.f0; have hfz26_1 := q_.f1; have hfz26_2 := q_.f2; clear q_
      go_wp2_with (first | ((with_reducible refine gate_callee (f := 30) rfl ?_); refine goesL_ (some 9) rfl rfl Try.func30 (by kernel_rfl) rfl #[.agg #[.int .i64 a0_0, .int .i64 a0_1, .int .i64 a0_2]] rfl (by (try simp only [List.map_toArray, List.map_cons, List.map_nil]); first | done | rfl | (simp only [List.length_drop, List.length_take]; rfl)) ?_; (with_reducible refine (leveeref03_Right.calls a0_0 a0_1 a0_2 true _ A6.out).mono ?_); rintro e w27 ⟨rfl, hb⟩; refine ⟨_, rfl, ?_⟩; have n0_ := Aside0.mk (blk_below (g := gb125) (o := .cells #[.int .i64 a0_0, .int .i64 a0_1, .int .i64 a0_2] 23 (0, 0)) (by (with_reducible repeat first | apply kN | apply kd | apply ka); exact BK125.out) hb); have n1_ := Aside0.mk (blk_below (g := gb126) (o := .cells #[.int .i64 a1_0, .slice A1_1 l1_1.length c1_1, .slice A1_2 l1_2.length c1_2] 31 (0, 0)) (by (with_reducible repeat first | apply kN | apply kd | apply ka); exact BK126.out) hb); have n2_ := Aside0.mk (below_step (by repeat (first | (with_reducible first | exact HB.out | apply bA | apply bN | apply bD | refine bS ?_ GE125.out | refine bS ?_ GE126.out) | exact HB.out)) hb); clear BK125; clear BK126; clear HB; have BK125 := n0_; have BK126 := n1_; have HB := n2_; clear n0_ n1_ n2_; (try clear hb); (try clear hb2); (try clear hk); (try clear hi); have q_ := cells3 BK126.out; have hcz28_0 := q_.c0; have hcz28_1 := q_.c1; have hcz28_2 := q_.c2; have hfz28_0 := q_.f0; have hfz28_1 := q_.f1; have hfz28_2 := q_.f2; clear q_; have q_ := cells3 BK125.out; have hcz29_0 := q_.c0; have hcz29_1 := q_.c1; have hcz29_2 := q_.c2; have hfz29_0 := q_.f0; have hfz29_1 := q_.f1; have hfz29_2 := q_.f2; clear q_))
      go_meet
      case rel => exact ⟨_, (true), (by first | rfl | (simp; done) | (simp [*]; done)), H', ⟨by first | omega | exact Nat.le_refl _⟩, ⟨by (with_reducible repeat first | apply kN | apply kd | apply ka); exact BK125.out⟩, ⟨by (with_reducible repeat first | apply kN | apply kd | apply ka); exact BK126.out⟩, ⟨by repeat (first | (with_reducible first | exact HB.out | apply bA | apply bN | apply bD | refine bS ?_ GE125.out | refine bS ?_ GE126.out) | exact HB.out)⟩⟩
  ·replace c7 := Bool.eq_false_iff.mpr c7
   subst c7
   have H1 : (leveeref06_Right.j0 k true a0_0 a0_1 a0_2 a1_0 l1_1 l1_2) = some r := by rw [if_neg (show ¬ (false = true) by decide)] at H; exact H
   clear H
   have H := H1
   clear H1
   have H' := Aside0.mk H
   clear H
   have hnb30 := NB125_126.out
   have hnc30 := NB126_125.out
   have q_ := cells3 BK125.out; have hcz31_0 := q_.c0; have hcz31_1 := q_.c1; have hcz31_2 := q_.c2; have hfz31_0 := q_.f0; have hfz31_1 := q_.f1; have hfz31_2 := q_.f2; clear q_
   go_wp2_with (first | ((with_reducible refine gate_callee (f := 30) rfl ?_); refine goesL_ (some 9) rfl rfl Try.func30 (by kernel_rfl) rfl #[.agg #[.int .i64 a0_0, .int .i64 a0_1, .int .i64 a0_2]] rfl (by (try simp only [List.map_toArray, List.map_cons, List.map_nil]); first | done | rfl | (simp only [List.length_drop, List.length_take]; rfl)) ?_; (with_reducible refine (leveeref03_Right.calls a0_0 a0_1 a0_2 false _ A6.out).mono ?_); rintro e w32 ⟨rfl, hb⟩; refine ⟨_, rfl, ?_⟩; have n0_ := Aside0.mk (blk_below (g := gb125) (o := .cells #[.int .i64 a0_0, .int .i64 a0_1, .int .i64 a0_2] 23 (0, 0)) (by (with_reducible repeat first | apply kN | apply kd | apply ka); exact BK125.out) hb); have n1_ := Aside0.mk (blk_below (g := gb126) (o := .cells #[.int .i64 a1_0, .slice A1_1 l1_1.length c1_1, .slice A1_2 l1_2.length c1_2] 31 (0, 0)) (by (with_reducible repeat first | apply kN | apply kd | apply ka); exact BK126.out) hb); have n2_ := Aside0.mk (below_step (by repeat (first | (with_reducible first | exact HB.out | apply bA | apply bN | apply bD | refine bS ?_ GE125.out | refine bS ?_ GE126.out) | exact HB.out)) hb); clear BK125; clear BK126; clear HB; have BK125 := n0_; have BK126 := n1_; have HB := n2_; clear n0_ n1_ n2_; (try clear hb); (try clear hb2); (try clear hk); (try clear hi)))
   go_meet
   case rel => exact ⟨_, (true), (by first | rfl | (simp; done) | (simp [*]; done)), H', ⟨by first | omega | exact Nat.le_refl _⟩, ⟨by (with_reducible repeat first | apply kN | apply kd | apply ka); exact BK125.out⟩, ⟨by (with_reducible repeat first | apply kN | apply kd | apply ka); exact BK126.out⟩, ⟨by repeat (first | (with_reducible first | exact HB.out | apply bA | apply bN | apply bD | refine bS ?_ GE125.out | refine bS ?_ GE126.out) | exact HB.out)⟩⟩
 case rest =>
  clear HC3
  try clear c1
  try clear c2
  try clear p2
  try clear c3
  try clear c7
  try clear c8
  try clear c8b0
  try clear c9
  try clear c13
  try clear c13b0
  try clear c14
  try clear c17
  try clear c19
  try clear c19b0
  try clear c19b1
  try clear c20
  try clear c25
  try clear c30
  try clear hcz10_0 hcz10_1 hcz10_2
  try clear hcz12_0 hcz12_1 hcz12_2
  try clear hcz15_0 hcz15_1 hcz15_2
  try clear hcz17_0 hcz17_1 hcz17_2
  try clear hcz18_0 hcz18_1 hcz18_2
  try clear hcz21_0 hcz21_1 hcz21_2
  try clear hcz23_0 hcz23_1 hcz23_2
  try clear hcz24_0 hcz24_1 hcz24_2
  try clear hcz26_0 hcz26_1 hcz26_2
  try clear hcz28_0 hcz28_1 hcz28_2
  try clear hcz29_0 hcz29_1 hcz29_2
  try clear hcz31_0 hcz31_1 hcz31_2
  try clear hfz10_0 hfz10_1 hfz10_2
  try clear hfz12_0 hfz12_1 hfz12_2
  try clear hfz15_0 hfz15_1 hfz15_2
  try clear hfz17_0 hfz17_1 hfz17_2
  try clear hfz18_0 hfz18_1 hfz18_2
  try clear hfz21_0 hfz21_1 hfz21_2
  try clear hfz23_0 hfz23_1 hfz23_2
  try clear hfz24_0 hfz24_1 hfz24_2
  try clear hfz26_0 hfz26_1 hfz26_2
  try clear hfz28_0 hfz28_1 hfz28_2
  try clear hfz29_0 hfz29_1 hfz29_2
  try clear hfz31_0 hfz31_1 hfz31_2
  obtain ⟨kq, x34_2, rfl, HA, HJ2, BK125, BK126, HB⟩ := hcut
  cases kq with
  | zero => exact absurd HA.out (by simp [leveeref06_Right.j0])
  | succ kj2 =>
   have H := HA.out
   clear HA
   simp only [leveeref06_Right.j0] at H
   by_cases c33 : x34_2 = true
   ·subst c33
    have H1 : (some false) = some r := by rw [if_pos rfl] at H; exact H
    clear H
    have H := H1
    clear H1
    obtain rfl := Option.some.inj H
    go_wp2
    go_ret
    exact ⟨by first | rfl | (simp [errW_none, errW_some] <;> rfl) | (simp [*, errW_none, errW_some] <;> rfl), by repeat (first | (with_reducible first | exact HB.out | apply bA | apply bN | apply bD | refine bS ?_ GE125.out | refine bS ?_ GE126.out) | exact HB.out)⟩
   ·replace c33 := Bool.eq_false_iff.mpr c33
    subst c33
    have H1 : (leveeref06_Right.l0 kj2 true 0 a0_0 a0_1 a0_2 a1_0 l1_1 l1_2) = some r := by rw [if_neg (show ¬ (false = true) by decide)] at H; exact H
    clear H
    have H := H1
    clear H1
    have H' := Aside0.mk H
    clear H
    go_wp2
    go_loopg [5, 6] kj2 (fun kq v5 v6 w' => ∃ (x5_2 : Bool) (x6_2 : Int), v5 = .bool x5_2 ∧ v6 = .int .i64 x6_2 ∧ Aside0 (leveeref06_Right.l0 kq x5_2 x6_2 a0_0 a0_1 a0_2 a1_0 l1_1 l1_2 = some r) ∧ Aside0 (kq ≤ kj2) ∧ Aside0 (w'.heap[gb125]? = some (.cells #[.int .i64 a0_0, .int .i64 a0_1, .int .i64 a0_2] 23 (0, 0))) ∧ Aside0 (w'.heap[gb126]? = some (.cells #[.int .i64 a1_0, (.slice A1_1 l1_1.length c1_1), (.slice A1_2 l1_2.length c1_2)] 31 (0, 0))) ∧ Aside0 (Below w.heap.size w w'))
    case atStart => exact ⟨(true), (0), (by first | rfl | (simp; done) | (simp [*]; done)), (by first | rfl | (simp; done) | (simp [*]; done)), H', ⟨Nat.le_refl _⟩, ⟨by (with_reducible repeat first | apply kN | apply kd | apply ka); exact BK125.out⟩, ⟨by (with_reducible repeat first | apply kN | apply kd | apply ka); exact BK126.out⟩, ⟨by repeat (first | (with_reducible first | exact HB.out | apply bA | apply bN | apply bD | refine bS ?_ GE125.out | refine bS ?_ GE126.out) | exact HB.out)⟩⟩
    case round =>
     clear H'
     try clear c1
     try clear c2
     try clear p2
     try clear c3
     try clear c7
     try clear c8
     try clear c8b0
     try clear c9
     try clear c13
     try clear c13b0
     try clear c14
     try clear c17
     try clear c19
     try clear c19b0
     try clear c19b1
     try clear c20
     try clear c25
     try clear c30
     try clear c33
     try clear hcz10_0 hcz10_1 hcz10_2
     try clear hcz12_0 hcz12_1 hcz12_2
     try clear hcz15_0 hcz15_1 hcz15_2
     try clear hcz17_0 hcz17_1 hcz17_2
     try clear hcz18_0 hcz18_1 hcz18_2
     try clear hcz21_0 hcz21_1 hcz21_2
     try clear hcz23_0 hcz23_1 hcz23_2
     try clear hcz24_0 hcz24_1 hcz24_2
     try clear hcz26_0 hcz26_1 hcz26_2
     try clear hcz28_0 hcz28_1 hcz28_2
     try clear hcz29_0 hcz29_1 hcz29_2
     try clear hcz31_0 hcz31_1 hcz31_2
     try clear hfz10_0 hfz10_1 hfz10_2
     try clear hfz12_0 hfz12_1 hfz12_2
     try clear hfz15_0 hfz15_1 hfz15_2
     try clear hfz17_0 hfz17_1 hfz17_2
     try clear hfz18_0 hfz18_1 hfz18_2
     try clear hfz21_0 hfz21_1 hfz21_2
     try clear hfz23_0 hfz23_1 hfz23_2
     try clear hfz24_0 hfz24_1 hfz24_2
     try clear hfz26_0 hfz26_1 hfz26_2
     try clear hfz28_0 hfz28_1 hfz28_2
     try clear hfz29_0 hfz29_1 hfz29_2
     try clear hfz31_0 hfz31_1 hfz31_2
     try clear p2
     obtain ⟨x5_2, x6_2, rfl, rfl, HA, HK2, BK125, BK126, HB⟩ := hrel
     cases gk with
     | zero => exact absurd HA.out (by intro h0_; cases h0_)
     | succ k2 =>
      have H := HA.out
      clear HA
      simp only [leveeref06_Right.l0] at H
      by_cases c34 : x6_2 < 128
      ·rw [if_pos c34] at H
       have c34b0 : decide (x6_2 < 128) = true := decide_eq_true c34
       clear c34
       by_cases c35 : x6_2 < (wrap64 (1 + (wrap64 (Int.tdiv a0_1 4))))
       ·rw [if_pos c35] at H
        have c35b0 : decide (x6_2 < (wrap64 (1 + (wrap64 (Int.tdiv a0_1 4))))) = true := decide_eq_true c35
        clear c35
        replace H := Option.bind_eq_some_iff.mp H
        obtain ⟨t128, A360, H⟩ := H
        replace H : (if t128 = true then (if x6_2 ≥ a0_0 then ((leveeref05_Get.f l1_1 x6_2).bind fun t129 => (if t129 = true then (leveeref06_Right.l0 k2 false (wrap64 (x6_2 + 1)) a0_0 a0_1 a0_2 a1_0 l1_1 l1_2) else (leveeref06_Right.l0 k2 x5_2 (wrap64 (x6_2 + 1)) a0_0 a0_1 a0_2 a1_0 l1_1 l1_2))) else (leveeref06_Right.l0 k2 x5_2 (wrap64 (x6_2 + 1)) a0_0 a0_1 a0_2 a1_0 l1_1 l1_2)) else (leveeref06_Right.l0 k2 false (wrap64 (x6_2 + 1)) a0_0 a0_1 a0_2 a1_0 l1_1 l1_2)) = some r := H
        have A36 := Aside0.mk A360
        clear A360
        by_cases c37 : t128 = true
        ·subst c37
         have H1 : (if x6_2 ≥ a0_0 then ((leveeref05_Get.f l1_1 x6_2).bind fun t129 => (if t129 = true then (leveeref06_Right.l0 k2 false (wrap64 (x6_2 + 1)) a0_0 a0_1 a0_2 a1_0 l1_1 l1_2) else (leveeref06_Right.l0 k2 x5_2 (wrap64 (x6_2 + 1)) a0_0 a0_1 a0_2 a1_0 l1_1 l1_2))) else (leveeref06_Right.l0 k2 x5_2 (wrap64 (x6_2 + 1)) a0_0 a0_1 a0_2 a1_0 l1_1 l1_2)) = some r := by rw [if_pos rfl] at H; exact H
         clear H
         have H := H1
         clear H1
         by_cases c38 : x6_2 ≥ a0_0
         ·rw [if_pos c38] at H
          have c38b0 : decide (a0_0 ≤ x6_2) = true := decide_eq_true c38
          clear c38
          replace H := Option.bind_eq_some_iff.mp H
          obtain ⟨t129, A390, H⟩ := H
          replace H : (if t129 = true then (leveeref06_Right.l0 k2 false (wrap64 (x6_2 + 1)) a0_0 a0_1 a0_2 a1_0 l1_1 l1_2) else (leveeref06_Right.l0 k2 x5_2 (wrap64 (x6_2 + 1)) a0_0 a0_1 a0_2 a1_0 l1_1 l1_2)) = some r := H
          have A39 := Aside0.mk A390
          clear A390
          by_cases c40 : t129 = true
          ·subst c40
           have H1 : (leveeref06_Right.l0 k2 false (wrap64 (x6_2 + 1)) a0_0 a0_1 a0_2 a1_0 l1_1 l1_2) = some r := by rw [if_pos rfl] at H; exact H
           clear H
           have H := H1
           clear H1
           have H' := Aside0.mk H
           clear H
           have hnb41 := NB125_126.out
           have hnc41 := NB126_125.out
           have q_ := cells3 BK125.out; have hcz42_0 := q_.c0; have hcz42_1 := q_.c1; have hcz42_2 := q_.c2; have hfz42_0 := q_.f0; have hfz42_1 := q_.f1; have hfz42_2 := q_.f2; clear q_
           have q_ := cells3 BK126.out; have hcz43_0 := q_.c0; have hcz43_1 := q_.c1; have hcz43_2 := q_.c2; have hfz43_0 := q_.f0; have hfz43_1 := q_.f1; have hfz43_2 := q_.f2; clear q_
           go_wp2_with (first | (go_at_call 42; (with_reducible refine (leveeref05_Get.calls _ _ l1_1 x6_2 true _ ?side1 ?side2 A36.out).mono ?_); (case side1 => repeat (first | exact (Kd.C_below HR1_1.out HB.out) | (with_reducible refine Kd.C_alloc ?_ _) | (with_reducible refine Kd.C_drewN ?_ _) | (with_reducible refine Kd.C_drew ?_))); (case side2 => exact HC1_1.out); rintro e w' ⟨rfl, ⟨nd, rfl⟩⟩) | (go_at_call 42; (with_reducible refine (leveeref05_Get.calls _ _ l1_1 x6_2 true _ ?side1 ?side2 A39.out).mono ?_); (case side1 => repeat (first | exact (Kd.C_below HR1_1.out (by repeat (first | (with_reducible first | exact HB.out | apply bA | apply bN | apply bD | refine bS ?_ GE125.out | refine bS ?_ GE126.out) | exact HB.out))) | (with_reducible refine Kd.C_alloc ?_ _) | (with_reducible refine Kd.C_drewN ?_ _) | (with_reducible refine Kd.C_drew ?_))); (case side2 => exact HC1_1.out); rintro e w' ⟨rfl, ⟨nd, rfl⟩⟩))
           go_roundg k2
           case measure => have := HJ2.out; have := HK2.out; omega
           case rel => exact ⟨(false), (wrap64 (x6_2 + 1)), (by first | rfl | (simp; done) | (simp [*]; done)), (by first | rfl | (simp; done) | (simp [*]; done)), H', ⟨by have := HJ2.out; have := HK2.out; omega⟩, ⟨by (with_reducible repeat first | apply kN | apply kd | apply ka); exact BK125.out⟩, ⟨by (with_reducible repeat first | apply kN | apply kd | apply ka); exact BK126.out⟩, ⟨by repeat (first | (with_reducible first | exact HB.out | apply bA | apply bN | apply bD | refine bS ?_ GE125.out | refine bS ?_ GE126.out) | exact HB.out)⟩⟩
          ·replace c40 := Bool.eq_false_iff.mpr c40
           subst c40
           have H1 : (leveeref06_Right.l0 k2 x5_2 (wrap64 (x6_2 + 1)) a0_0 a0_1 a0_2 a1_0 l1_1 l1_2) = some r := by rw [if_neg (show ¬ (false = true) by decide)] at H; exact H
           clear H
           have H := H1
           clear H1
           have H' := Aside0.mk H
           clear H
           have hnb44 := NB125_126.out
           have hnc44 := NB126_125.out
           have q_ := cells3 BK125.out; have hcz45_0 := q_.c0; have hcz45_1 := q_.c1; have hcz45_2 := q_.c2; have hfz45_0 := q_.f0; have hfz45_1 := q_.f1; have hfz45_2 := q_.f2; clear q_
           have q_ := cells3 BK126.out; have hcz46_0 := q_.c0; have hcz46_1 := q_.c1; have hcz46_2 := q_.c2; have hfz46_0 := q_.f0; have hfz46_1 := q_.f1; have hfz46_2 := q_.f2; clear q_
           cases A36.out.symm.trans A39.out
         ·rw [if_neg c38] at H
          have c38b0 : decide (a0_0 ≤ x6_2) = false := decide_eq_false c38
          clear c38
          have H' := Aside0.mk H
          clear H
          have hnb47 := NB125_126.out
          have hnc47 := NB126_125.out
          have q_ := cells3 BK125.out; have hcz48_0 := q_.c0; have hcz48_1 := q_.c1; have hcz48_2 := q_.c2; have hfz48_0 := q_.f0; have hfz48_1 := q_.f1; have hfz48_2 := q_.f2; clear q_
          have q_ := cells3 BK126.out; have hcz49_0 := q_.c0; have hcz49_1 := q_.c1; have hcz49_2 := q_.c2; have hfz49_0 := q_.f0; have hfz49_1 := q_.f1; have hfz49_2 := q_.f2; clear q_
          go_wp2_with (first | (go_at_call 42; (with_reducible refine (leveeref05_Get.calls _ _ l1_1 x6_2 true _ ?side1 ?side2 A36.out).mono ?_); (case side1 => repeat (first | exact (Kd.C_below HR1_1.out HB.out) | (with_reducible refine Kd.C_alloc ?_ _) | (with_reducible refine Kd.C_drewN ?_ _) | (with_reducible refine Kd.C_drew ?_))); (case side2 => exact HC1_1.out); rintro e w' ⟨rfl, ⟨nd, rfl⟩⟩))
          go_roundg k2
          case measure => have := HJ2.out; have := HK2.out; omega
          case rel => exact ⟨(x5_2), (wrap64 (x6_2 + 1)), (by first | rfl | (simp; done) | (simp [*]; done)), (by first | rfl | (simp; done) | (simp [*]; done)), H', ⟨by have := HJ2.out; have := HK2.out; omega⟩, ⟨by (with_reducible repeat first | apply kN | apply kd | apply ka); exact BK125.out⟩, ⟨by (with_reducible repeat first | apply kN | apply kd | apply ka); exact BK126.out⟩, ⟨by repeat (first | (with_reducible first | exact HB.out | apply bA | apply bN | apply bD | refine bS ?_ GE125.out | refine bS ?_ GE126.out) | exact HB.out)⟩⟩
        ·replace c37 := Bool.eq_false_iff.mpr c37
         subst c37
         have H1 : (leveeref06_Right.l0 k2 false (wrap64 (x6_2 + 1)) a0_0 a0_1 a0_2 a1_0 l1_1 l1_2) = some r := by rw [if_neg (show ¬ (false = true) by decide)] at H; exact H
         clear H
         have H := H1
         clear H1
         have H' := Aside0.mk H
         clear H
         have hnb50 := NB125_126.out
         have hnc50 := NB126_125.out
         have q_ := cells3 BK125.out; have hcz51_0 := q_.c0; have hcz51_1 := q_.c1; have hcz51_2 := q_.c2; have hfz51_0 := q_.f0; have hfz51_1 := q_.f1; have hfz51_2 := q_.f2; clear q_
         have q_ := cells3 BK126.out; have hcz52_0 := q_.c0; have hcz52_1 := q_.c1; have hcz52_2 := q_.c2; have hfz52_0 := q_.f0; have hfz52_1 := q_.f1; have hfz52_2 := q_.f2; clear q_
         go_wp2_with (first | (go_at_call 42; (with_reducible refine (leveeref05_Get.calls _ _ l1_1 x6_2 false _ ?side1 ?side2 A36.out).mono ?_); (case side1 => repeat (first | exact (Kd.C_below HR1_1.out HB.out) | (with_reducible refine Kd.C_alloc ?_ _) | (with_reducible refine Kd.C_drewN ?_ _) | (with_reducible refine Kd.C_drew ?_))); (case side2 => exact HC1_1.out); rintro e w' ⟨rfl, ⟨nd, rfl⟩⟩))
         go_roundg k2
         case measure => have := HJ2.out; have := HK2.out; omega
         case rel => exact ⟨(false), (wrap64 (x6_2 + 1)), (by first | rfl | (simp; done) | (simp [*]; done)), (by first | rfl | (simp; done) | (simp [*]; done)), H', ⟨by have := HJ2.out; have := HK2.out; omega⟩, ⟨by (with_reducible repeat first | apply kN | apply kd | apply ka); exact BK125.out⟩, ⟨by (with_reducible repeat first | apply kN | apply kd | apply ka); exact BK126.out⟩, ⟨by repeat (first | (with_reducible first | exact HB.out | apply bA | apply bN | apply bD | refine bS ?_ GE125.out | refine bS ?_ GE126.out) | exact HB.out)⟩⟩
       ·rw [if_neg c35] at H
        have c35b0 : decide (x6_2 < (wrap64 (1 + (wrap64 (Int.tdiv a0_1 4))))) = false := decide_eq_false c35
        clear c35
        by_cases c53 : x6_2 ≥ a0_0
        ·rw [if_pos c53] at H
         have c53b0 : decide (a0_0 ≤ x6_2) = true := decide_eq_true c53
         clear c53
         replace H := Option.bind_eq_some_iff.mp H
         obtain ⟨t130, A540, H⟩ := H
         replace H : (if t130 = true then (leveeref06_Right.l0 k2 false (wrap64 (x6_2 + 1)) a0_0 a0_1 a0_2 a1_0 l1_1 l1_2) else (leveeref06_Right.l0 k2 x5_2 (wrap64 (x6_2 + 1)) a0_0 a0_1 a0_2 a1_0 l1_1 l1_2)) = some r := H
         have A54 := Aside0.mk A540
         clear A540
         by_cases c55 : t130 = true
         ·subst c55
          have H1 : (leveeref06_Right.l0 k2 false (wrap64 (x6_2 + 1)) a0_0 a0_1 a0_2 a1_0 l1_1 l1_2) = some r := by rw [if_pos rfl] at H; exact H
          clear H
          have H := H1
          clear H1
          have H' := Aside0.mk H
          clear H
          have hnb56 := NB125_126.out
          have hnc56 := NB126_125.out
          have q_ := cells3 BK125.out; have hcz57_0 := q_.c0; have hcz57_1 := q_.c1; have hcz57_2 := q_.c2; have hfz57_0 := q_.f0; have hfz57_1 := q_.f1; have hfz57_2 := q_.f2; clear q_
          have q_ := cells3 BK126.out; have hcz58_0 := q_.c0; have hcz58_1 := q_.c1; have hcz58_2 := q_.c2; have hfz58_0 := q_.f0; have hfz58_1 := q_.f1; have hfz58_2 := q_.f2; clear q_
          go_wp2_with (first | (go_at_call 42; (with_reducible refine (leveeref05_Get.calls _ _ l1_1 x6_2 true _ ?side1 ?side2 A54.out).mono ?_); (case side1 => repeat (first | exact (Kd.C_below HR1_1.out HB.out) | (with_reducible refine Kd.C_alloc ?_ _) | (with_reducible refine Kd.C_drewN ?_ _) | (with_reducible refine Kd.C_drew ?_))); (case side2 => exact HC1_1.out); rintro e w' ⟨rfl, ⟨nd, rfl⟩⟩))
          go_roundg k2
          case measure => have := HJ2.out; have := HK2.out; omega
          case rel => exact ⟨(false), (wrap64 (x6_2 + 1)), (by first | rfl | (simp; done) | (simp [*]; done)), (by first | rfl | (simp; done) | (simp [*]; done)), H', ⟨by have := HJ2.out; have := HK2.out; omega⟩, ⟨by (with_reducible repeat first | apply kN | apply kd | apply ka); exact BK125.out⟩, ⟨by (with_reducible repeat first | apply kN | apply kd | apply ka); exact BK126.out⟩, ⟨by repeat (first | (with_reducible first | exact HB.out | apply bA | apply bN | apply bD | refine bS ?_ GE125.out | refine bS ?_ GE126.out) | exact HB.out)⟩⟩
         ·replace c55 := Bool.eq_false_iff.mpr c55
          subst c55
          have H1 : (leveeref06_Right.l0 k2 x5_2 (wrap64 (x6_2 + 1)) a0_0 a0_1 a0_2 a1_0 l1_1 l1_2) = some r := by rw [if_neg (show ¬ (false = true) by decide)] at H; exact H
          clear H
          have H := H1
          clear H1
          have H' := Aside0.mk H
          clear H
          have hnb59 := NB125_126.out
          have hnc59 := NB126_125.out
          have q_ := cells3 BK125.out; have hcz60_0 := q_.c0; have hcz60_1 := q_.c1; have hcz60_2 := q_.c2; have hfz60_0 := q_.f0; have hfz60_1 := q_.f1; have hfz60_2 := q_.f2; clear q_
          have q_ := cells3 BK126.out; have hcz61_0 := q_.c0; have hcz61_1 := q_.c1; have hcz61_2 := q_.c2; have hfz61_0 := q_.f0; have hfz61_1 := q_.f1; have hfz61_2 := q_.f2; clear q_
          go_wp2_with (first | (go_at_call 42; (with_reducible refine (leveeref05_Get.calls _ _ l1_1 x6_2 false _ ?side1 ?side2 A54.out).mono ?_); (case side1 => repeat (first | exact (Kd.C_below HR1_1.out HB.out) | (with_reducible refine Kd.C_alloc ?_ _) | (with_reducible refine Kd.C_drewN ?_ _) | (with_reducible refine Kd.C_drew ?_))); (case side2 => exact HC1_1.out); rintro e w' ⟨rfl, ⟨nd, rfl⟩⟩))
          go_roundg k2
          case measure => have := HJ2.out; have := HK2.out; omega
          case rel => exact ⟨(x5_2), (wrap64 (x6_2 + 1)), (by first | rfl | (simp; done) | (simp [*]; done)), (by first | rfl | (simp; done) | (simp [*]; done)), H', ⟨by have := HJ2.out; have := HK2.out; omega⟩, ⟨by (with_reducible repeat first | apply kN | apply kd | apply ka); exact BK125.out⟩, ⟨by (with_reducible repeat first | apply kN | apply kd | apply ka); exact BK126.out⟩, ⟨by repeat (first | (with_reducible first | exact HB.out | apply bA | apply bN | apply bD | refine bS ?_ GE125.out | refine bS ?_ GE126.out) | exact HB.out)⟩⟩
        ·rw [if_neg c53] at H
         have c53b0 : decide (a0_0 ≤ x6_2) = false := decide_eq_false c53
         clear c53
         have H' := Aside0.mk H
         clear H
         have hnb62 := NB125_126.out
         have hnc62 := NB126_125.out
         have q_ := cells3 BK125.out; have hcz63_0 := q_.c0; have hcz63_1 := q_.c1; have hcz63_2 := q_.c2; have hfz63_0 := q_.f0; have hfz63_1 := q_.f1; have hfz63_2 := q_.f2; clear q_
         go_wp2
         go_roundg k2
         case measure => have := HJ2.out; have := HK2.out; omega
         case rel => exact ⟨(x5_2), (wrap64 (x6_2 + 1)), (by first | rfl | (simp; done) | (simp [*]; done)), (by first | rfl | (simp; done) | (simp [*]; done)), H', ⟨by have := HJ2.out; have := HK2.out; omega⟩, ⟨by (with_reducible repeat first | apply kN | apply kd | apply ka); exact BK125.out⟩, ⟨by (with_reducible repeat first | apply kN | apply kd | apply ka); exact BK126.out⟩, ⟨by repeat (first | (with_reducible first | exact HB.out | apply bA | apply bN | apply bD | refine bS ?_ GE125.out | refine bS ?_ GE126.out) | exact HB.out)⟩⟩
      ·rw [if_neg c34] at H
       have c34b0 : decide (x6_2 < 128) = false := decide_eq_false c34
       clear c34
       have H' := Aside0.mk H
       clear H
       go_wp2
       go_loopg [5, 7] k2 (fun kq v5 v7 w' => ∃ (x5_3 : Bool) (x7_3 : Int), v5 = .bool x5_3 ∧ v7 = .int .i64 x7_3 ∧ Aside0 (leveeref06_Right.l1 kq x5_3 x7_3 a0_0 a0_1 a0_2 a1_0 l1_1 l1_2 = some r) ∧ Aside0 (kq ≤ k2) ∧ Aside0 (w'.heap[gb125]? = some (.cells #[.int .i64 a0_0, .int .i64 a0_1, .int .i64 a0_2] 23 (0, 0))) ∧ Aside0 (w'.heap[gb126]? = some (.cells #[.int .i64 a1_0, (.slice A1_1 l1_1.length c1_1), (.slice A1_2 l1_2.length c1_2)] 31 (0, 0))) ∧ Aside0 (Below w.heap.size w w'))
       case atStart => exact ⟨(x5_2), (0), (by first | rfl | (simp; done) | (simp [*]; done)), (by first | rfl | (simp; done) | (simp [*]; done)), H', ⟨Nat.le_refl _⟩, ⟨by (with_reducible repeat first | apply kN | apply kd | apply ka); exact BK125.out⟩, ⟨by (with_reducible repeat first | apply kN | apply kd | apply ka); exact BK126.out⟩, ⟨by repeat (first | (with_reducible first | exact HB.out | apply bA | apply bN | apply bD | refine bS ?_ GE125.out | refine bS ?_ GE126.out) | exact HB.out)⟩⟩
       case round =>
        clear H'
        try clear c1
        try clear c2
        try clear p2
        try clear c3
        try clear c4
        try clear c5
        try clear c6
        try clear p6
        try clear c7
        try clear c8
        try clear c8b0
        try clear c9
        try clear c13
        try clear c13b0
        try clear c14
        try clear c17
        try clear c19
        try clear c19b0
        try clear c19b1
        try clear c20
        try clear c25
        try clear c30
        try clear c33
        try clear c34
        try clear c34b0
        try clear c35
        try clear c35b0
        try clear c37
        try clear c38
        try clear c38b0
        try clear c40
        try clear c41
        try clear c44
        try clear c47
        try clear c50
        try clear c53
        try clear c53b0
        try clear c55
        try clear c56
        try clear c59
        try clear c62
        try clear hcz10_0 hcz10_1 hcz10_2
        try clear hcz12_0 hcz12_1 hcz12_2
        try clear hcz15_0 hcz15_1 hcz15_2
        try clear hcz17_0 hcz17_1 hcz17_2
        try clear hcz18_0 hcz18_1 hcz18_2
        try clear hcz21_0 hcz21_1 hcz21_2
        try clear hcz23_0 hcz23_1 hcz23_2
        try clear hcz24_0 hcz24_1 hcz24_2
        try clear hcz26_0 hcz26_1 hcz26_2
        try clear hcz28_0 hcz28_1 hcz28_2
        try clear hcz29_0 hcz29_1 hcz29_2
        try clear hcz31_0 hcz31_1 hcz31_2
        try clear hcz42_0 hcz42_1 hcz42_2
        try clear hcz43_0 hcz43_1 hcz43_2
        try clear hcz45_0 hcz45_1 hcz45_2
        try clear hcz46_0 hcz46_1 hcz46_2
        try clear hcz48_0 hcz48_1 hcz48_2
        try clear hcz49_0 hcz49_1 hcz49_2
        try clear hcz51_0 hcz51_1 hcz51_2
        try clear hcz52_0 hcz52_1 hcz52_2
        try clear hcz57_0 hcz57_1 hcz57_2
        try clear hcz58_0 hcz58_1 hcz58_2
        try clear hcz60_0 hcz60_1 hcz60_2
        try clear hcz61_0 hcz61_1 hcz61_2
        try clear hcz63_0 hcz63_1 hcz63_2
        try clear hfz10_0 hfz10_1 hfz10_2
        try clear hfz12_0 hfz12_1 hfz12_2
        try clear hfz15_0 hfz15_1 hfz15_2
        try clear hfz17_0 hfz17_1 hfz17_2
        try clear hfz18_0 hfz18_1 hfz18_2
        try clear hfz21_0 hfz21_1 hfz21_2
        try clear hfz23_0 hfz23_1 hfz23_2
        try clear hfz24_0 hfz24_1 hfz24_2
        try clear hfz26_0 hfz26_1 hfz26_2
        try clear hfz28_0 hfz28_1 hfz28_2
        try clear hfz29_0 hfz29_1 hfz29_2
        try clear hfz31_0 hfz31_1 hfz31_2
        try clear hfz42_0 hfz42_1 hfz42_2
        try clear hfz43_0 hfz43_1 hfz43_2
        try clear hfz45_0 hfz45_1 hfz45_2
        try clear hfz46_0 hfz46_1 hfz46_2
        try clear hfz48_0 hfz48_1 hfz48_2
        try clear hfz49_0 hfz49_1 hfz49_2
        try clear hfz51_0 hfz51_1 hfz51_2
        try clear hfz52_0 hfz52_1 hfz52_2
        try clear hfz57_0 hfz57_1 hfz57_2
        try clear hfz58_0 hfz58_1 hfz58_2
        try clear hfz60_0 hfz60_1 hfz60_2
        try clear hfz61_0 hfz61_1 hfz61_2
        try clear hfz63_0 hfz63_1 hfz63_2
        try clear p2
        obtain ⟨x5_3, x7_3, rfl, rfl, HA, HK3, BK125, BK126, HB⟩ := hrel
        cases gk with
        | zero => exact absurd HA.out (by intro h0_; cases h0_)
        | succ k3 =>
         have H := HA.out
         clear HA
         simp only [leveeref06_Right.l1] at H
         by_cases c64 : x7_3 < 64
         ·rw [if_pos c64] at H
          have c64b0 : decide (x7_3 < 64) = true := decide_eq_true c64
          clear c64
          by_cases c65 : x7_3 ≥ a0_1
          ·rw [if_pos c65] at H
           have c65b0 : decide (a0_1 ≤ x7_3) = true := decide_eq_true c65
           clear c65
           replace H := Option.bind_eq_some_iff.mp H
           obtain ⟨t131, A660, H⟩ := H
           replace H : (if t131 = true then (leveeref06_Right.l1 k3 false (wrap64 (x7_3 + 1)) a0_0 a0_1 a0_2 a1_0 l1_1 l1_2) else (if a1_0 = 0 then (if x7_3 < 2 then ((leveeref05_Get.f l1_2 x7_3).bind fun t132 => (if t132 = true then (leveeref06_Right.l1 k3 x5_3 (wrap64 (x7_3 + 1)) a0_0 a0_1 a0_2 a1_0 l1_1 l1_2) else (leveeref06_Right.l1 k3 false (wrap64 (x7_3 + 1)) a0_0 a0_1 a0_2 a1_0 l1_1 l1_2))) else (leveeref06_Right.l1 k3 x5_3 (wrap64 (x7_3 + 1)) a0_0 a0_1 a0_2 a1_0 l1_1 l1_2)) else (leveeref06_Right.l1 k3 x5_3 (wrap64 (x7_3 + 1)) a0_0 a0_1 a0_2 a1_0 l1_1 l1_2))) = some r := H
           have A66 := Aside0.mk A660
           clear A660
           by_cases c67 : t131 = true
           ·subst c67
            have H1 : (leveeref06_Right.l1 k3 false (wrap64 (x7_3 + 1)) a0_0 a0_1 a0_2 a1_0 l1_1 l1_2) = some r := by rw [if_pos rfl] at H; exact H
            clear H
            have H := H1
            clear H1
            have H' := Aside0.mk H
            clear H
            have hnb68 := NB125_126.out
            have hnc68 := NB126_125.out
            have q_ := cells3 BK125.out; have hcz69_0 := q_.c0; have hcz69_1 := q_.c1; have hcz69_2 := q_.c2; have hfz69_0 := q_.f0; have hfz69_1 := q_.f1; have hfz69_2 := q_.f2; clear q_
            have q_ := cells3 BK126.out; have hcz70_0 := q_.c0; have hcz70_1 := q_.c1; have hcz70_2 := q_.c2; have hfz70_0 := q_.f0; have hfz70_1 := q_.f1; have hfz70_2 := q_.f2; clear q_
            go_wp2_with (first | (go_at_call 42; (with_reducible refine (leveeref05_Get.calls _ _ l1_2 x7_3 true _ ?side1 ?side2 A66.out).mono ?_); (case side1 => repeat (first | exact (Kd.C_below HR1_2.out HB.out) | (with_reducible refine Kd.C_alloc ?_ _) | (with_reducible refine Kd.C_drewN ?_ _) | (with_reducible refine Kd.C_drew ?_))); (case side2 => exact HC1_2.out); rintro e w' ⟨rfl, ⟨nd, rfl⟩⟩))
            go_roundg k3
            case measure => have := HJ2.out; have := HK2.out; have := HK3.out; omega
            case rel => exact ⟨(false), (wrap64 (x7_3 + 1)), (by first | rfl | (simp; done) | (simp [*]; done)), (by first | rfl | (simp; done) | (simp [*]; done)), H', ⟨by have := HJ2.out; have := HK2.out; have := HK3.out; omega⟩, ⟨by (with_reducible repeat first | apply kN | apply kd | apply ka); exact BK125.out⟩, ⟨by (with_reducible repeat first | apply kN | apply kd | apply ka); exact BK126.out⟩, ⟨by repeat (first | (with_reducible first | exact HB.out | apply bA | apply bN | apply bD | refine bS ?_ GE125.out | refine bS ?_ GE126.out) | exact HB.out)⟩⟩
           ·replace c67 := Bool.eq_false_iff.mpr c67
            subst c67
            have H1 : (if a1_0 = 0 then (if x7_3 < 2 then ((leveeref05_Get.f l1_2 x7_3).bind fun t132 => (if t132 = true then (leveeref06_Right.l1 k3 x5_3 (wrap64 (x7_3 + 1)) a0_0 a0_1 a0_2 a1_0 l1_1 l1_2) else (leveeref06_Right.l1 k3 false (wrap64 (x7_3 + 1)) a0_0 a0_1 a0_2 a1_0 l1_1 l1_2))) else (leveeref06_Right.l1 k3 x5_3 (wrap64 (x7_3 + 1)) a0_0 a0_1 a0_2 a1_0 l1_1 l1_2)) else (leveeref06_Right.l1 k3 x5_3 (wrap64 (x7_3 + 1)) a0_0 a0_1 a0_2 a1_0 l1_1 l1_2)) = some r := by rw [if_neg (show ¬ (false = true) by decide)] at H; exact H
            clear H
            have H := H1
            clear H1
            by_cases c71 : a1_0 = 0
            ·rw [if_pos c71] at H
             have c71b0 : (a1_0 == 0) = true := beq_iff_eq.mpr c71
             have c71b1 : (a1_0 != 0) = false := bne_eq_false_iff_eq.mpr c71
             clear c71
             by_cases c72 : x7_3 < 2
             ·rw [if_pos c72] at H
              have c72b0 : decide (x7_3 < 2) = true := decide_eq_true c72
              clear c72
              replace H := Option.bind_eq_some_iff.mp H
              obtain ⟨t132, A730, H⟩ := H
              replace H : (if t132 = true then (leveeref06_Right.l1 k3 x5_3 (wrap64 (x7_3 + 1)) a0_0 a0_1 a0_2 a1_0 l1_1 l1_2) else (leveeref06_Right.l1 k3 false (wrap64 (x7_3 + 1)) a0_0 a0_1 a0_2 a1_0 l1_1 l1_2)) = some r := H
              have A73 := Aside0.mk A730
              clear A730
              by_cases c74 : t132 = true
              ·subst c74
               have H1 : (leveeref06_Right.l1 k3 x5_3 (wrap64 (x7_3 + 1)) a0_0 a0_1 a0_2 a1_0 l1_1 l1_2) = some r := by rw [if_pos rfl] at H; exact H
               clear H
               have H := H1
               clear H1
               have H' := Aside0.mk H
               clear H
               have hnb75 := NB125_126.out
               have hnc75 := NB126_125.out
               have q_ := cells3 BK125.out; have hcz76_0 := q_.c0; have hcz76_1 := q_.c1; have hcz76_2 := q_.c2; have hfz76_0 := q_.f0; have hfz76_1 := q_.f1; have hfz76_2 := q_.f2; clear q_
               have q_ := cells3 BK126.out; have hcz77_0 := q_.c0; have hcz77_1 := q_.c1; have hcz77_2 := q_.c2; have hfz77_0 := q_.f0; have hfz77_1 := q_.f1; have hfz77_2 := q_.f2; clear q_
               cases A73.out.symm.trans A66.out
              ·replace c74 := Bool.eq_false_iff.mpr c74
               subst c74
               have H1 : (leveeref06_Right.l1 k3 false (wrap64 (x7_3 + 1)) a0_0 a0_1 a0_2 a1_0 l1_1 l1_2) = some r := by rw [if_neg (show ¬ (false = true) by decide)] at H; exact H
               clear H
               have H := H1
               clear H1
               have H' := Aside0.mk H
               clear H
               have hnb78 := NB125_126.out
               have hnc78 := NB126_125.out
               have q_ := cells3 BK125.out; have hcz79_0 := q_.c0; have hcz79_1 := q_.c1; have hcz79_2 := q_.c2; have hfz79_0 := q_.f0; have hfz79_1 := q_.f1; have hfz79_2 := q_.f2; clear q_
               have q_ := cells3 BK126.out; have hcz80_0 := q_.c0; have hcz80_1 := q_.c1; have hcz80_2 := q_.c2; have hfz80_0 := q_.f0; have hfz80_1 := q_.f1; have hfz80_2 := q_.f2; clear q_
               go_wp2_with (first | (go_at_call 42; (with_reducible refine (leveeref05_Get.calls _ _ l1_2 x7_3 false _ ?side1 ?side2 A66.out).mono ?_); (case side1 => repeat (first | exact (Kd.C_below HR1_2.out HB.out) | (with_reducible refine Kd.C_alloc ?_ _) | (with_reducible refine Kd.C_drewN ?_ _) | (with_reducible refine Kd.C_drew ?_))); (case side2 => exact HC1_2.out); rintro e w' ⟨rfl, ⟨nd, rfl⟩⟩) | (go_at_call 42; (with_reducible refine (leveeref05_Get.calls _ _ l1_2 x7_3 false _ ?side1 ?side2 A73.out).mono ?_); (case side1 => repeat (first | exact (Kd.C_below HR1_2.out (by repeat (first | (with_reducible first | exact HB.out | apply bA | apply bN | apply bD | refine bS ?_ GE125.out | refine bS ?_ GE126.out) | exact HB.out))) | (with_reducible refine Kd.C_alloc ?_ _) | (with_reducible refine Kd.C_drewN ?_ _) | (with_reducible refine Kd.C_drew ?_))); (case side2 => exact HC1_2.out); rintro e w' ⟨rfl, ⟨nd, rfl⟩⟩))
               go_roundg k3
               case measure => have := HJ2.out; have := HK2.out; have := HK3.out; omega
               case rel => exact ⟨(false), (wrap64 (x7_3 + 1)), (by first | rfl | (simp; done) | (simp [*]; done)), (by first | rfl | (simp; done) | (simp [*]; done)), H', ⟨by have := HJ2.out; have := HK2.out; have := HK3.out; omega⟩, ⟨by (with_reducible repeat first | apply kN | apply kd | apply ka); exact BK125.out⟩, ⟨by (with_reducible repeat first | apply kN | apply kd | apply ka); exact BK126.out⟩, ⟨by repeat (first | (with_reducible first | exact HB.out | apply bA | apply bN | apply bD | refine bS ?_ GE125.out | refine bS ?_ GE126.out) | exact HB.out)⟩⟩
             ·rw [if_neg c72] at H
              have c72b0 : decide (x7_3 < 2) = false := decide_eq_false c72
              clear c72
              have H' := Aside0.mk H
              clear H
              have hnb81 := NB125_126.out
              have hnc81 := NB126_125.out
              have q_ := cells3 BK125.out; have hcz82_0 := q_.c0; have hcz82_1 := q_.c1; have hcz82_2 := q_.c2; have hfz82_0 := q_.f0; have hfz82_1 := q_.f1; have hfz82_2 := q_.f2; clear q_
              have q_ := cells3 BK126.out; have hcz83_0 := q_.c0; have hcz83_1 := q_.c1; have hcz83_2 := q_.c2; have hfz83_0 := q_.f0; have hfz83_1 := q_.f1; have hfz83_2 := q_.f2; clear q_
              go_wp2_with (first | (go_at_call 42; (with_reducible refine (leveeref05_Get.calls _ _ l1_2 x7_3 false _ ?side1 ?side2 A66.out).mono ?_); (case side1 => repeat (first | exact (Kd.C_below HR1_2.out HB.out) | (with_reducible refine Kd.C_alloc ?_ _) | (with_reducible refine Kd.C_drewN ?_ _) | (with_reducible refine Kd.C_drew ?_))); (case side2 => exact HC1_2.out); rintro e w' ⟨rfl, ⟨nd, rfl⟩⟩))
              go_roundg k3
              case measure => have := HJ2.out; have := HK2.out; have := HK3.out; omega
              case rel => exact ⟨(x5_3), (wrap64 (x7_3 + 1)), (by first | rfl | (simp; done) | (simp [*]; done)), (by first | rfl | (simp; done) | (simp [*]; done)), H', ⟨by have := HJ2.out; have := HK2.out; have := HK3.out; omega⟩, ⟨by (with_reducible repeat first | apply kN | apply kd | apply ka); exact BK125.out⟩, ⟨by (with_reducible repeat first | apply kN | apply kd | apply ka); exact BK126.out⟩, ⟨by repeat (first | (with_reducible first | exact HB.out | apply bA | apply bN | apply bD | refine bS ?_ GE125.out | refine bS ?_ GE126.out) | exact HB.out)⟩⟩
            ·rw [if_neg c71] at H
             have c71b0 : (a1_0 == 0) = false := beq_eq_false_iff_ne.mpr c71
             have c71b1 : (a1_0 != 0) = true := bne_iff_ne.mpr c71
             have H' := Aside0.mk H
             clear H
             have hnb84 := NB125_126.out
             have hnc84 := NB126_125.out
             have q_ := cells3 BK125.out; have hcz85_0 := q_.c0; have hcz85_1 := q_.c1; have hcz85_2 := q_.c2; have hfz85_0 := q_.f0; have hfz85_1 := q_.f1; have hfz85_2 := q_.f2; clear q_
             have q_ := cells3 BK126.out; have hcz86_0 := q_.c0; have hcz86_1 := q_.c1; have hcz86_2 := q_.c2; have hfz86_0 := q_.f0; have hfz86_1 := q_.f1; have hfz86_2 := q_.f2; clear q_
             go_wp2_with (first | (go_at_call 42; (with_reducible refine (leveeref05_Get.calls _ _ l1_2 x7_3 false _ ?side1 ?side2 A66.out).mono ?_); (case side1 => repeat (first | exact (Kd.C_below HR1_2.out HB.out) | (with_reducible refine Kd.C_alloc ?_ _) | (with_reducible refine Kd.C_drewN ?_ _) | (with_reducible refine Kd.C_drew ?_))); (case side2 => exact HC1_2.out); rintro e w' ⟨rfl, ⟨nd, rfl⟩⟩))
             go_roundg k3
             case measure => have := HJ2.out; have := HK2.out; have := HK3.out; omega
             case rel => exact ⟨(x5_3), (wrap64 (x7_3 + 1)), (by first | rfl | (simp; done) | (simp [*]; done)), (by first | rfl | (simp; done) | (simp [*]; done)), H', ⟨by have := HJ2.out; have := HK2.out; have := HK3.out; omega⟩, ⟨by (with_reducible repeat first | apply kN | apply kd | apply ka); exact BK125.out⟩, ⟨by (with_reducible repeat first | apply kN | apply kd | apply ka); exact BK126.out⟩, ⟨by repeat (first | (with_reducible first | exact HB.out | apply bA | apply bN | apply bD | refine bS ?_ GE125.out | refine bS ?_ GE126.out) | exact HB.out)⟩⟩
          ·rw [if_neg c65] at H
           have c65b0 : decide (a0_1 ≤ x7_3) = false := decide_eq_false c65
           clear c65
           by_cases c87 : a1_0 = 0
           ·rw [if_pos c87] at H
            have c87b0 : (a1_0 == 0) = true := beq_iff_eq.mpr c87
            have c87b1 : (a1_0 != 0) = false := bne_eq_false_iff_eq.mpr c87
            clear c87
            by_cases c88 : x7_3 < 2
            ·rw [if_pos c88] at H
             have c88b0 : decide (x7_3 < 2) = true := decide_eq_true c88
             clear c88
             replace H := Option.bind_eq_some_iff.mp H
             obtain ⟨t133, A890, H⟩ := H
             replace H : (if t133 = true then (leveeref06_Right.l1 k3 x5_3 (wrap64 (x7_3 + 1)) a0_0 a0_1 a0_2 a1_0 l1_1 l1_2) else (leveeref06_Right.l1 k3 false (wrap64 (x7_3 + 1)) a0_0 a0_1 a0_2 a1_0 l1_1 l1_2)) = some r := H
             have A89 := Aside0.mk A890
             clear A890
             by_cases c90 : t133 = true
             ·subst c90
              have H1 : (leveeref06_Right.l1 k3 x5_3 (wrap64 (x7_3 + 1)) a0_0 a0_1 a0_2 a1_0 l1_1 l1_2) = some r := by rw [if_pos rfl] at H; exact H
              clear H
              have H := H1
              clear H1
              have H' := Aside0.mk H
              clear H
              have hnb91 := NB125_126.out
              have hnc91 := NB126_125.out
              have q_ := cells3 BK125.out; have hcz92_0 := q_.c0; have hcz92_1 := q_.c1; have hcz92_2 := q_.c2; have hfz92_0 := q_.f0; have hfz92_1 := q_.f1; have hfz92_2 := q_.f2; clear q_
              have q_ := cells3 BK126.out; have hcz93_0 := q_.c0; have hcz93_1 := q_.c1; have hcz93_2 := q_.c2; have hfz93_0 := q_.f0; have hfz93_1 := q_.f1; have hfz93_2 := q_.f2; clear q_
              go_wp2_with (first | (go_at_call 42; (with_reducible refine (leveeref05_Get.calls _ _ l1_2 x7_3 true _ ?side1 ?side2 A89.out).mono ?_); (case side1 => repeat (first | exact (Kd.C_below HR1_2.out HB.out) | (with_reducible refine Kd.C_alloc ?_ _) | (with_reducible refine Kd.C_drewN ?_ _) | (with_reducible refine Kd.C_drew ?_))); (case side2 => exact HC1_2.out); rintro e w' ⟨rfl, ⟨nd, rfl⟩⟩))
              go_roundg k3
              case measure => have := HJ2.out; have := HK2.out; have := HK3.out; omega
              case rel => exact ⟨(x5_3), (wrap64 (x7_3 + 1)), (by first | rfl | (simp; done) | (simp [*]; done)), (by first | rfl | (simp; done) | (simp [*]; done)), H', ⟨by have := HJ2.out; have := HK2.out; have := HK3.out; omega⟩, ⟨by (with_reducible repeat first | apply kN | apply kd | apply ka); exact BK125.out⟩, ⟨by (with_reducible repeat first | apply kN | apply kd | apply ka); exact BK126.out⟩, ⟨by repeat (first | (with_reducible first | exact HB.out | apply bA | apply bN | apply bD | refine bS ?_ GE125.out | refine bS ?_ GE126.out) | exact HB.out)⟩⟩
             ·replace c90 := Bool.eq_false_iff.mpr c90
              subst c90
              have H1 : (leveeref06_Right.l1 k3 false (wrap64 (x7_3 + 1)) a0_0 a0_1 a0_2 a1_0 l1_1 l1_2) = some r := by rw [if_neg (show ¬ (false = true) by decide)] at H; exact H
              clear H
              have H := H1
              clear H1
              have H' := Aside0.mk H
              clear H
              have hnb94 := NB125_126.out
              have hnc94 := NB126_125.out
              have q_ := cells3 BK125.out; have hcz95_0 := q_.c0; have hcz95_1 := q_.c1; have hcz95_2 := q_.c2; have hfz95_0 := q_.f0; have hfz95_1 := q_.f1; have hfz95_2 := q_.f2; clear q_
              have q_ := cells3 BK126.out; have hcz96_0 := q_.c0; have hcz96_1 := q_.c1; have hcz96_2 := q_.c2; have hfz96_0 := q_.f0; have hfz96_1 := q_.f1; have hfz96_2 := q_.f2; clear q_
              go_wp2_with (first | (go_at_call 42; (with_reducible refine (leveeref05_Get.calls _ _ l1_2 x7_3 false _ ?side1 ?side2 A89.out).mono ?_); (case side1 => repeat (first | exact (Kd.C_below HR1_2.out HB.out) | (with_reducible refine Kd.C_alloc ?_ _) | (with_reducible refine Kd.C_drewN ?_ _) | (with_reducible refine Kd.C_drew ?_))); (case side2 => exact HC1_2.out); rintro e w' ⟨rfl, ⟨nd, rfl⟩⟩))
              go_roundg k3
              case measure => have := HJ2.out; have := HK2.out; have := HK3.out; omega
              case rel => exact ⟨(false), (wrap64 (x7_3 + 1)), (by first | rfl | (simp; done) | (simp [*]; done)), (by first | rfl | (simp; done) | (simp [*]; done)), H', ⟨by have := HJ2.out; have := HK2.out; have := HK3.out; omega⟩, ⟨by (with_reducible repeat first | apply kN | apply kd | apply ka); exact BK125.out⟩, ⟨by (with_reducible repeat first | apply kN | apply kd | apply ka); exact BK126.out⟩, ⟨by repeat (first | (with_reducible first | exact HB.out | apply bA | apply bN | apply bD | refine bS ?_ GE125.out | refine bS ?_ GE126.out) | exact HB.out)⟩⟩
            ·rw [if_neg c88] at H
             have c88b0 : decide (x7_3 < 2) = false := decide_eq_false c88
             clear c88
             have H' := Aside0.mk H
             clear H
             have hnb97 := NB125_126.out
             have hnc97 := NB126_125.out
             have q_ := cells3 BK125.out; have hcz98_0 := q_.c0; have hcz98_1 := q_.c1; have hcz98_2 := q_.c2; have hfz98_0 := q_.f0; have hfz98_1 := q_.f1; have hfz98_2 := q_.f2; clear q_
             have q_ := cells3 BK126.out; have hcz99_0 := q_.c0; have hcz99_1 := q_.c1; have hcz99_2 := q_.c2; have hfz99_0 := q_.f0; have hfz99_1 := q_.f1; have hfz99_2 := q_.f2; clear q_
             go_wp2
             go_roundg k3
             case measure => have := HJ2.out; have := HK2.out; have := HK3.out; omega
             case rel => exact ⟨(x5_3), (wrap64 (x7_3 + 1)), (by first | rfl | (simp; done) | (simp [*]; done)), (by first | rfl | (simp; done) | (simp [*]; done)), H', ⟨by have := HJ2.out; have := HK2.out; have := HK3.out; omega⟩, ⟨by (with_reducible repeat first | apply kN | apply kd | apply ka); exact BK125.out⟩, ⟨by (with_reducible repeat first | apply kN | apply kd | apply ka); exact BK126.out⟩, ⟨by repeat (first | (with_reducible first | exact HB.out | apply bA | apply bN | apply bD | refine bS ?_ GE125.out | refine bS ?_ GE126.out) | exact HB.out)⟩⟩
           ·rw [if_neg c87] at H
            have c87b0 : (a1_0 == 0) = false := beq_eq_false_iff_ne.mpr c87
            have c87b1 : (a1_0 != 0) = true := bne_iff_ne.mpr c87
            have H' := Aside0.mk H
            clear H
            have hnb100 := NB125_126.out
            have hnc100 := NB126_125.out
            have q_ := cells3 BK125.out; have hcz101_0 := q_.c0; have hcz101_1 := q_.c1; have hcz101_2 := q_.c2; have hfz101_0 := q_.f0; have hfz101_1 := q_.f1; have hfz101_2 := q_.f2; clear q_
            have q_ := cells3 BK126.out; have hcz102_0 := q_.c0; have hcz102_1 := q_.c1; have hcz102_2 := q_.c2; have hfz102_0 := q_.f0; have hfz102_1 := q_.f1; have hfz102_2 := q_.f2; clear q_
            go_wp2
            go_roundg k3
            case measure => have := HJ2.out; have := HK2.out; have := HK3.out; omega
            case rel => exact ⟨(x5_3), (wrap64 (x7_3 + 1)), (by first | rfl | (simp; done) | (simp [*]; done)), (by first | rfl | (simp; done) | (simp [*]; done)), H', ⟨by have := HJ2.out; have := HK2.out; have := HK3.out; omega⟩, ⟨by (with_reducible repeat first | apply kN | apply kd | apply ka); exact BK125.out⟩, ⟨by (with_reducible repeat first | apply kN | apply kd | apply ka); exact BK126.out⟩, ⟨by repeat (first | (with_reducible first | exact HB.out | apply bA | apply bN | apply bD | refine bS ?_ GE125.out | refine bS ?_ GE126.out) | exact HB.out)⟩⟩
         ·rw [if_neg c64] at H
          have c64b0 : decide (x7_3 < 64) = false := decide_eq_false c64
          clear c64
          obtain rfl := Option.some.inj H
          go_wp2
          go_ret
          exact ⟨by first | rfl | (simp [errW_none, errW_some] <;> rfl) | (simp [*, errW_none, errW_some] <;> rfl), by repeat (first | (with_reducible first | exact HB.out | apply bA | apply bN | apply bD | refine bS ?_ GE125.out | refine bS ?_ GE126.out) | exact HB.out)⟩

end Go.Proofs.Ytonkgfgciegknaa.P
