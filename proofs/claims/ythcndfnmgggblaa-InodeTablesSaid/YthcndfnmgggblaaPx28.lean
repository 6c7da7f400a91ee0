-- PRINTED by print.py (a twelfth state) out of the translation. Not trusted: Lean checks it.
import Derived.Test.YthcndfnmgggblaaPx0
import Derived.Test.YthcndfnmgggblaaPx13
import Derived.Test.YthcndfnmgggblaaHand
import Derived.Test.YthcndfnmgggblaaHandInode
import Derived.Test.YthcndfnmgggblaaHandGet
import Derived.Test.YthcndfnmgggblaaCells
namespace Go.Proofs.Ythcndfnmgggblaa.P
open Go.RowKit Go.Proofs.YthcndfnmgggblaaW.PrintWords Go.Proofs.YthcndfnmgggblaaW.PrintLast Go.Proofs.YthcndfnmgggblaaW.PrintMore
attribute [local go_sem] max2_int min2_int max_two min_two max_three min_three max_four min_four   -- for this text's walks alone
set_option linter.unusedVariables false
set_option linter.unusedSimpArgs false

/-! ### inode_Read: function 15 -/
def inode_Read.f (k : Nat) (l0 : List Int) (a1 : Int) : Option (Int × Int × Int × Int × Int × Int × Int × Int × Int × Int × Int × Int × Int) := (inode_may.f l0 a1).bind fun t346 => (if t346 = 0 then (if 0 ≤ (wrap64 (a1 * 64)) then (if (wrap64 (a1 * 64)) ≤ (wrap64 ((wrap64 (a1 + 1)) * 64)) then (if (wrap64 ((wrap64 (a1 + 1)) * 64)) ≤ (l0.length : Int) then ((inode_Get.f k ((l0.take ((wrap64 ((wrap64 (a1 + 1)) * 64)) : Int).toNat).drop ((wrap64 (a1 * 64)) : Int).toNat)).bind fun bt348 => (some (bt348.1, bt348.2.1, bt348.2.2.1, bt348.2.2.2.1, bt348.2.2.2.2.1, bt348.2.2.2.2.2.1, bt348.2.2.2.2.2.2.1, bt348.2.2.2.2.2.2.2.1, bt348.2.2.2.2.2.2.2.2.1, bt348.2.2.2.2.2.2.2.2.2.1, bt348.2.2.2.2.2.2.2.2.2.2.1, bt348.2.2.2.2.2.2.2.2.2.2.2.1, bt348.2.2.2.2.2.2.2.2.2.2.2.2))) else (none)) else (none)) else (none)) else (some (0, 0, 0, 0, 0, 0, 0, 0, 0, 0, 0, 0, t346)))
theorem inode_Read.mono : ∀ a0 a1 k, LeO (inode_Read.f k a0 a1) (inode_Read.f (k + 1) a0 a1) := by
 intro a0 a1 k
 unfold inode_Read.f
 repeat' first
   | (with_reducible exact inode_Get.mono _ _)
   | (with_reducible exact LeO.refl _)
   | (with_reducible exact LeO.none _)
   | (with_reducible refine LeO.ite ?_ ?_)
   | (with_reducible refine LeO.bind ?_ (fun _ => ?_))
   | exact inode_Get.mono _ _
   | exact LeO.none _
   | refine LeO.ite ?_ ?_
   | refine LeO.bind ?_ (fun _ => ?_)
set_option maxHeartbeats 8000000 in
set_option maxRecDepth 100000 in
theorem inode_Read.calls (k : Nat) (A0 : Option Addr) (c0 : Nat) (l0 : List Int) (a1 : Int) (r1 : Int) (r2 : Int) (r3 : Int) (r4 : Int) (r5 : Int) (r6 : Int) (r7 : Int) (r8 : Int) (r9 : Int) (r10 : Int) (r11 : Int) (r12 : Int) (r13 : Int) (w : World) (hr0 : Kd.C (Kd.int .u8) w A0 l0.length l0) (hc0 : l0.length ≤ c0) (h : inode_Read.f k l0 a1 = some (r1, r2, r3, r4, r5, r6, r7, r8, r9, r10, r11, r12, r13)) :
  Calls Try.prog 15 #[.slice A0 l0.length c0, .int .i64 a1] w fun e w' => e = .returned (.tuple #[.agg #[.int .i64 r1, .int .i64 r2, .int .i64 r3, .int .i64 r4, .int .i64 r5, .int .i64 r6, .int .i64 r7, .int .i64 r8, .int .i64 r9, .int .i64 r10, .int .i64 r11, .int .i64 r12], .int .i64 r13]) ∧ Below w.heap.size w w' := by
 have hu24 := Try.underlying24
 have HR0 := Aside0.mk hr0
 have HC0 := Aside0.mk hc0
 clear hr0 hc0
 have HB := Aside0.mk (Below.refl w.heap.size w)
 have H : ((inode_may.f l0 a1).bind fun t346 => (if t346 = 0 then (if 0 ≤ (wrap64 (a1 * 64)) then (if (wrap64 (a1 * 64)) ≤ (wrap64 ((wrap64 (a1 + 1)) * 64)) then (if (wrap64 ((wrap64 (a1 + 1)) * 64)) ≤ (l0.length : Int) then ((inode_Get.f k ((l0.take ((wrap64 ((wrap64 (a1 + 1)) * 64)) : Int).toNat).drop ((wrap64 (a1 * 64)) : Int).toNat)).bind fun bt348 => (some (bt348.1, bt348.2.1, bt348.2.2.1, bt348.2.2.2.1, bt348.2.2.2.2.1, bt348.2.2.2.2.2.1, bt348.2.2.2.2.2.2.1, bt348.2.2.2.2.2.2.2.1, bt348.2.2.2.2.2.2.2.2.1, bt348.2.2.2.2.2.2.2.2.2.1, bt348.2.2.2.2.2.2.2.2.2.2.1, bt348.2.2.2.2.2.2.2.2.2.2.2.1, bt348.2.2.2.2.2.2.2.2.2.2.2.2))) else (none)) else (none)) else (none)) else (some (0, 0, 0, 0, 0, 0, 0, 0, 0, 0, 0, 0, t346)))) = some (r1, r2, r3, r4, r5, r6, r7, r8, r9, r10, r11, r12, r13) := h
 clear h
 replace H := Option.bind_eq_some_iff.mp H
 obtain ⟨t346, A30, H⟩ := H
 replace H : (if t346 = 0 then (if 0 ≤ (wrap64 (a1 * 64)) then (if (wrap64 (a1 * 64)) ≤ (wrap64 ((wrap64 (a1 + 1)) * 64)) then (if (wrap64 ((wrap64 (a1 + 1)) * 64)) ≤ (l0.length : Int) then ((inode_Get.f k ((l0.take ((wrap64 ((wrap64 (a1 + 1)) * 64)) : Int).toNat).drop ((wrap64 (a1 * 64)) : Int).toNat)).bind fun bt348 => (some (bt348.1, bt348.2.1, bt348.2.2.1, bt348.2.2.2.1, bt348.2.2.2.2.1, bt348.2.2.2.2.2.1, bt348.2.2.2.2.2.2.1, bt348.2.2.2.2.2.2.2.1, bt348.2.2.2.2.2.2.2.2.1, bt348.2.2.2.2.2.2.2.2.2.1, bt348.2.2.2.2.2.2.2.2.2.2.1, bt348.2.2.2.2.2.2.2.2.2.2.2.1, bt348.2.2.2.2.2.2.2.2.2.2.2.2))) else (none)) else (none)) else (none)) else (some (0, 0, 0, 0, 0, 0, 0, 0, 0, 0, 0, 0, t346))) = some (r1, r2, r3, r4, r5, r6, r7, r8, r9, r10, r11, r12, r13) := H
 have A3 := Aside0.mk A30
 clear A30
 by_cases c4 : t346 = 0
 ·rw [if_pos c4] at H
  have c4b0 : (t346 == 0) = true := beq_iff_eq.mpr c4
  have c4b1 : (t346 != 0) = false := bne_eq_false_iff_eq.mpr c4
  clear c4
  obtain ⟨ji5, hji5⟩ : ∃ j_ : Int, (wrap64 (a1 * 64)) = j_ := ⟨_, rfl⟩
  replace H : (if 0 ≤ (ji5) then (if (ji5) ≤ (wrap64 ((wrap64 (a1 + 1)) * 64)) then (if (wrap64 ((wrap64 (a1 + 1)) * 64)) ≤ (l0.length : Int) then ((inode_Get.f k ((l0.take ((wrap64 ((wrap64 (a1 + 1)) * 64)) : Int).toNat).drop ((ji5) : Int).toNat)).bind fun bt348 => (some (bt348.1, bt348.2.1, bt348.2.2.1, bt348.2.2.2.1, bt348.2.2.2.2.1, bt348.2.2.2.2.2.1, bt348.2.2.2.2.2.2.1, bt348.2.2.2.2.2.2.2.1, bt348.2.2.2.2.2.2.2.2.1, bt348.2.2.2.2.2.2.2.2.2.1, bt348.2.2.2.2.2.2.2.2.2.2.1, bt348.2.2.2.2.2.2.2.2.2.2.2.1, bt348.2.2.2.2.2.2.2.2.2.2.2.2))) else (none)) else (none)) else (none)) = some (r1, r2, r3, r4, r5, r6, r7, r8, r9, r10, r11, r12, r13) := by first | (rw [hji5] at H; exact H) | (simp only [hji5] at H ⊢; exact H)
  (try rw [hji5] at A3)
  have hji5w : (IntKind.i64.wrap (a1 * 64)) = ji5 := (i64_w _).trans hji5
  by_cases c6 : 0 ≤ (ji5)
  ·rw [if_pos c6] at H
   have c6b0 := eq_true c6
   have c6b1 : decide (0 ≤ (ji5)) = true := decide_eq_true c6
   clear c6
   by_cases c7 : (ji5) ≤ (wrap64 ((wrap64 (a1 + 1)) * 64))
   ·rw [if_pos c7] at H
    have c7b0 := eq_true c7
    have c7b1 : decide ((ji5) ≤ (wrap64 ((wrap64 (a1 + 1)) * 64))) = true := decide_eq_true c7
    by_cases c8 : (wrap64 ((wrap64 (a1 + 1)) * 64)) ≤ (l0.length : Int)
    ·rw [if_pos c8] at H
     have c8b0 := eq_true c8
     have c8b1 : decide ((wrap64 ((wrap64 (a1 + 1)) * 64)) ≤ (l0.length : Int)) = true := decide_eq_true c8
     replace H := Option.bind_eq_some_iff.mp H
     obtain ⟨⟨t348, t349, t350, t351, t352, t353, t354, t355, t356, t357, t358, t359, t360⟩, A90, H⟩ := H
     replace H : (some (t348, t349, t350, t351, t352, t353, t354, t355, t356, t357, t358, t359, t360)) = some (r1, r2, r3, r4, r5, r6, r7, r8, r9, r10, r11, r12, r13) := H
     have A9 := Aside0.mk A90
     clear A90
     simp only [Option.some.injEq, Prod.mk.injEq] at H
     obtain ⟨rfl, rfl, rfl, rfl, rfl, rfl, rfl, rfl, rfl, rfl, rfl, rfl, rfl⟩ := H
     go_enter Try.func15, Try.ntmps15
     go_wp2_with (first | ((with_reducible refine gate_dst (N := 4) rfl ?_); refine box_event ?hg (N := 4) ?hd (cs := #[.int .i64 0, .int .i64 0, .int .i64 0, .int .i64 0, .int .i64 0, .int .i64 0, .int .i64 0, .int .i64 0, .int .i64 0, .int .i64 0, .int .i64 0, .int .i64 0]) (t := 24) ?hr ?_; (case hd => rfl); (case hg => rfl); (case hr => first | (go_simp; done) | (go_simp; rfl)); intro gb345 hg w10 hbox hb; have n0_ := Aside0.mk (below_step (by repeat (first | (with_reducible first | exact HB.out | apply below_alloc | apply pw_below_drewN | apply below_drew1) | exact HB.out)) hb); have n1_ := Aside0.mk (hbox); have n2_ := Aside0.mk ((by rw [hg]; exact (below_size (by repeat (first | (with_reducible first | exact HB.out | apply below_alloc | apply pw_below_drewN | apply below_drew1) | exact HB.out))) : w.heap.size ≤ gb345)); have n3_ := Aside0.mk ((by rw [hg]; exact (below_size (by repeat (first | (with_reducible first | exact HB.out | apply below_alloc | apply pw_below_drewN | apply below_drew1) | exact HB.out))) : w.heap.size ≤ gb345)); clear HB; have HB := n0_; have BK345 := n1_; have GW345 := n2_; have GE345 := n3_; clear n0_ n1_ n2_ n3_; clear hb hbox hg) | ((with_reducible refine gate_callee (f := 34) rfl ?_); refine goesL_ (some 9) rfl rfl Try.func34 (by kernel_rfl) rfl #[.slice A0 l0.length c0, .int .i64 a1] rfl (by (try simp only [List.map_toArray, List.map_cons, List.map_nil]); first | done | rfl | (simp only [List.length_drop, List.length_take]; rfl)) ?_; (with_reducible refine (inode_may.calls _ _ l0 a1 t346 _ ?side1 ?side2 A3.out).mono ?_); (case side1 => repeat (first | exact (Kd.C_below HR0.out HB.out) | (with_reducible refine Kd.C_alloc ?_ _) | (with_reducible refine Kd.C_drewN ?_ _) | (with_reducible refine Kd.C_drew ?_))); (case side2 => exact HC0.out); rintro e w' ⟨rfl, ⟨nd, rfl⟩⟩; refine ⟨_, rfl, ?_⟩; (try (rw [drewN_self w10]; generalize hq_ : World.drewN w10 _ = w10; have n0_ : Aside0 (w10.heap[gb345]? = some (.cells #[.int .i64 0, .int .i64 0, .int .i64 0, .int .i64 0, .int .i64 0, .int .i64 0, .int .i64 0, .int .i64 0, .int .i64 0, .int .i64 0, .int .i64 0, .int .i64 0] 24 (0, 0))) := ⟨by rw [← hq_]; exact (by (with_reducible repeat (first | refine blk_drewN ?_ _ | refine blk_drew ?_ | refine blk_alloc ?_ _)); exact BK345.out)⟩; have n1_ : Aside0 (Below w.heap.size w w10) := ⟨by rw [← hq_]; exact (by repeat (first | (with_reducible first | exact HB.out | apply below_alloc | apply pw_below_drewN | apply below_drew1 | refine below_set ?_ GE345.out) | exact HB.out))⟩; clear BK345 HB hq_; have BK345 := n0_; have HB := n1_; clear n0_ n1_)); obtain ⟨i011, hi011, _, hsz11, _⟩ := info_parts info5; obtain ⟨A11, hcut11, hA11, hC11⟩ := print_mid_of (P := Try.prog) (Value.int .u8) 0 25 5 .i64 .i64 Try.underlying25 hi011 hsz11 A0 c0 l0 (ji5) (wrap64 ((wrap64 (a1 + 1)) * 64)) (of_decide_eq_true (by first | (with_reducible assumption) | assumption)) (by first | omega | exact of_decide_eq_true (by first | (with_reducible assumption) | assumption)) (of_decide_eq_true (by first | (with_reducible assumption) | assumption)) HC0.out; have HR347 := Aside0.mk (Kd.C_of_reads (h1 := fun _ => rfl) (hA11 _ (Kd.reads_of_C HR0.out))); have HC347 := Aside0.mk hC11; clear hA11 hC11 hi011 hsz11) | ((with_reducible refine gate_callee (f := 9) rfl ?_); refine goesL_ (some 21) rfl rfl Try.func9 (by kernel_rfl) rfl #[.slice A11 ((l0.take ((wrap64 ((wrap64 (a1 + 1)) * 64)) : Int).toNat).drop ((ji5) : Int).toNat).length (c0 - (ji5).toNat)] rfl (by (try simp only [List.map_toArray, List.map_cons, List.map_nil]); first | done | (rw [show ((l0.take ((wrap64 ((wrap64 (a1 + 1)) * 64)) : Int).toNat).drop ((ji5) : Int).toNat).length = ((wrap64 ((wrap64 (a1 + 1)) * 64)).toNat - (ji5).toNat) from (by rw [List.length_drop, List.length_take]; have h_ : ((wrap64 ((wrap64 (a1 + 1)) * 64)) : Int) ≤ (l0.length : Int) := of_decide_eq_true (by first | (with_reducible assumption) | assumption); omega)] <;> rfl) | (simp only [hji5]; rfl) | rfl | (simp only [List.length_drop, List.length_take]; rfl)) ?_; (with_reducible refine (inode_Get.calls k _ _ ((l0.take ((wrap64 ((wrap64 (a1 + 1)) * 64)) : Int).toNat).drop ((ji5) : Int).toNat) t348 t349 t350 t351 t352 t353 t354 t355 t356 t357 t358 t359 t360 _ ?side1 ?side2 A9.out).mono ?_); (case side1 => repeat (first | exact (Kd.C_below HR347.out HB.out) | (with_reducible refine Kd.C_alloc ?_ _) | (with_reducible refine Kd.C_drewN ?_ _) | (with_reducible refine Kd.C_drew ?_))); (case side2 => exact HC347.out); rintro e w12 ⟨rfl, hb⟩; refine ⟨_, rfl, ?_⟩; have n0_ := Aside0.mk (blk_below (g := gb345) (o := .cells #[.int .i64 0, .int .i64 0, .int .i64 0, .int .i64 0, .int .i64 0, .int .i64 0, .int .i64 0, .int .i64 0, .int .i64 0, .int .i64 0, .int .i64 0, .int .i64 0] 24 (0, 0)) (by (with_reducible repeat (first | refine blk_drewN ?_ _ | refine blk_drew ?_ | refine blk_alloc ?_ _)); exact BK345.out) hb); have n1_ := Aside0.mk (below_step (by repeat (first | (with_reducible first | exact HB.out | apply below_alloc | apply pw_below_drewN | apply below_drew1 | refine below_set ?_ GE345.out) | exact HB.out)) hb); clear BK345; clear HB; have BK345 := n0_; have HB := n1_; clear n0_ n1_; (try clear hb); (try clear hb2); (try clear hk); (try clear hi); have q_ := cells12 BK345.out; have hcz13_0 := q_.c0; have hcz13_1 := q_.c1; have hcz13_2 := q_.c2; have hcz13_3 := q_.c3; have hcz13_4 := q_.c4; have hcz13_5 := q_.c5; have hcz13_6 := q_.c6; have hcz13_7 := q_.c7; have hcz13_8 := q_.c8; have hcz13_9 := q_.c9; have hcz13_10 := q_.c10; have hcz13_11 := q_.c11; have hfz13_0 := q_.f0; have hfz13_1 := q_.f1; have hfz13_2 := q_.f2; have hfz13_3 := q_.f3; have hfz13_4 := q_.f4; have hfz13_5 := q_.f5; have hfz13_6 := q_.f6; have hfz13_7 := q_.f7; have hfz13_8 := q_.f8; have hfz13_9 := q_.f9; have hfz13_10 := q_.f10; have hfz13_11 := q_.f11; clear q_))
     refine bodyPost_ret (results_ct rfl _ _ gb345 24 #[.int .i64 t348, .int .i64 t349, .int .i64 t350, .int .i64 t351, .int .i64 t352, .int .i64 t353, .int .i64 t354, .int .i64 t355, .int .i64 t356, .int .i64 t357, .int .i64 t358, .int .i64 t359] (0, 0) _ rfl (by (with_reducible repeat (first | refine blk_drewN ?_ _ | refine blk_drew ?_ | refine blk_alloc ?_ _)); refine blk_put12 (.int .i64 0) (.int .i64 0) (.int .i64 0) (.int .i64 0) (.int .i64 0) (.int .i64 0) (.int .i64 0) (.int .i64 0) (.int .i64 0) (.int .i64 0) (.int .i64 0) (.int .i64 0) ?_; (with_reducible repeat (first | refine blk_drewN ?_ _ | refine blk_drew ?_ | refine blk_alloc ?_ _)); exact BK345.out) Try.underlying24 rfl (by kernel_rfl)) rfl ?_
     exact ⟨by first | rfl | (simp [errW_none, errW_some] <;> rfl) | (simp only [← hji5]; first | rfl | (simp [errW_none, errW_some] <;> rfl)) | (simp [*, errW_none, errW_some] <;> rfl), by repeat (first | (with_reducible first | exact HB.out | apply below_alloc | apply pw_below_drewN | apply below_drew1 | refine below_set ?_ GE345.out) | exact HB.out)⟩
    ·rw [if_neg c8] at H
     exact absurd H (by simp)
   ·rw [if_neg c7] at H
    exact absurd H (by simp)
  ·rw [if_neg c6] at H
   exact absurd H (by simp)
 ·rw [if_neg c4] at H
  have c4b0 : (t346 == 0) = false := beq_eq_false_iff_ne.mpr c4
  have c4b1 : (t346 != 0) = true := bne_iff_ne.mpr c4
  simp only [Option.some.injEq, Prod.mk.injEq] at H
  obtain ⟨rfl, rfl, rfl, rfl, rfl, rfl, rfl, rfl, rfl, rfl, rfl, rfl, rfl⟩ := H
  go_enter Try.func15, Try.ntmps15
  go_wp2_with (first | ((with_reducible refine gate_dst (N := 4) rfl ?_); refine box_event ?hg (N := 4) ?hd (cs := #[.int .i64 0, .int .i64 0, .int .i64 0, .int .i64 0, .int .i64 0, .int .i64 0, .int .i64 0, .int .i64 0, .int .i64 0, .int .i64 0, .int .i64 0, .int .i64 0]) (t := 24) ?hr ?_; (case hd => rfl); (case hg => rfl); (case hr => first | (go_simp; done) | (go_simp; rfl)); intro gb345 hg w14 hbox hb; have n0_ := Aside0.mk (below_step (by repeat (first | (with_reducible first | exact HB.out | apply below_alloc | apply pw_below_drewN | apply below_drew1) | exact HB.out)) hb); have n1_ := Aside0.mk (hbox); have n2_ := Aside0.mk ((by rw [hg]; exact (below_size (by repeat (first | (with_reducible first | exact HB.out | apply below_alloc | apply pw_below_drewN | apply below_drew1) | exact HB.out))) : w.heap.size ≤ gb345)); have n3_ := Aside0.mk ((by rw [hg]; exact (below_size (by repeat (first | (with_reducible first | exact HB.out | apply below_alloc | apply pw_below_drewN | apply below_drew1) | exact HB.out))) : w.heap.size ≤ gb345)); clear HB; have HB := n0_; have BK345 := n1_; have GW345 := n2_; have GE345 := n3_; clear n0_ n1_ n2_ n3_; clear hb hbox hg) | ((with_reducible refine gate_callee (f := 34) rfl ?_); refine goesL_ (some 9) rfl rfl Try.func34 (by kernel_rfl) rfl #[.slice A0 l0.length c0, .int .i64 a1] rfl (by (try simp only [List.map_toArray, List.map_cons, List.map_nil]); first | done | rfl | (simp only [List.length_drop, List.length_take]; rfl)) ?_; (with_reducible refine (inode_may.calls _ _ l0 a1 t346 _ ?side1 ?side2 A3.out).mono ?_); (case side1 => repeat (first | exact (Kd.C_below HR0.out HB.out) | (with_reducible refine Kd.C_alloc ?_ _) | (with_reducible refine Kd.C_drewN ?_ _) | (with_reducible refine Kd.C_drew ?_))); (case side2 => exact HC0.out); rintro e w' ⟨rfl, ⟨nd, rfl⟩⟩; refine ⟨_, rfl, ?_⟩; (try (rw [drewN_self w14]; generalize hq_ : World.drewN w14 _ = w14; have n0_ : Aside0 (w14.heap[gb345]? = some (.cells #[.int .i64 0, .int .i64 0, .int .i64 0, .int .i64 0, .int .i64 0, .int .i64 0, .int .i64 0, .int .i64 0, .int .i64 0, .int .i64 0, .int .i64 0, .int .i64 0] 24 (0, 0))) := ⟨by rw [← hq_]; exact (by (with_reducible repeat (first | refine blk_drewN ?_ _ | refine blk_drew ?_ | refine blk_alloc ?_ _)); exact BK345.out)⟩; have n1_ : Aside0 (Below w.heap.size w w14) := ⟨by rw [← hq_]; exact (by repeat (first | (with_reducible first | exact HB.out | apply below_alloc | apply pw_below_drewN | apply below_drew1 | refine below_set ?_ GE345.out) | exact HB.out))⟩; clear BK345 HB hq_; have BK345 := n0_; have HB := n1_; clear n0_ n1_)); have q_ := cells12 BK345.out; have hcz15_0 := q_.c0; have hcz15_1 := q_.c1; have hcz15_2 := q_.c2; have hcz15_3 := q_.c3; have hcz15_4 := q_.c4; have hcz15_5 := q_.c5; have hcz15_6 := q_.c6; have hcz15_7 := q_.c7; have hcz15_8 := q_.c8; have hcz15_9 := q_.c9; have hcz15_10 := q_.c10; have hcz15_11 := q_.c11; have hfz15_0 := q_.f0; have hfz15_1 := q_.f1; have hfz15_2 := q_.f2; have hfz15_3 := q_.f3; have hfz15_4 := q_.f4; have hfz15_5 := q_.f5; have hfz15_6 := q_.f6; have hfz15_7 := q_.f7; have hfz15_8 := q_.f8; have hfz15_9 := q_.f9; have hfz15_10 := q_.f10; have hfz15_11 := q_.f11; clear q_))
  refine bodyPost_ret (results_ct rfl _ _ gb345 24 #[.int .i64 0, .int .i64 0, .int .i64 0, .int .i64 0, .int .i64 0, .int .i64 0, .int .i64 0, .int .i64 0, .int .i64 0, .int .i64 0, .int .i64 0, .int .i64 0] (0, 0) _ rfl (by (with_reducible repeat (first | refine blk_drewN ?_ _ | refine blk_drew ?_ | refine blk_alloc ?_ _)); refine blk_put12 (.int .i64 0) (.int .i64 0) (.int .i64 0) (.int .i64 0) (.int .i64 0) (.int .i64 0) (.int .i64 0) (.int .i64 0) (.int .i64 0) (.int .i64 0) (.int .i64 0) (.int .i64 0) ?_; (with_reducible repeat (first | refine blk_drewN ?_ _ | refine blk_drew ?_ | refine blk_alloc ?_ _)); exact BK345.out) Try.underlying24 rfl (by kernel_rfl)) rfl ?_
  exact ⟨by first | rfl | (simp [errW_none, errW_some] <;> rfl) | (simp [*, errW_none, errW_some] <;> rfl), by repeat (first | (with_reducible first | exact HB.out | apply below_alloc | apply pw_below_drewN | apply below_drew1 | refine below_set ?_ GE345.out) | exact HB.out)⟩

end Go.Proofs.Ythcndfnmgggblaa.P
