-- PRINTED by print.py (a twelfth state) out of the translation. Not trusted: Lean checks it.
import Derived.Test.YthcndfnmgggblaaPx0
import Derived.Test.YthcndfnmgggblaaHand
import Derived.Test.YthcndfnmgggblaaHandInode
import Derived.Test.YthcndfnmgggblaaCells
namespace Go.Proofs.Ythcndfnmgggblaa.P
open Go.RowKit Go.Proofs.YthcndfnmgggblaaW.PrintWords Go.Proofs.YthcndfnmgggblaaW.PrintLast Go.Proofs.YthcndfnmgggblaaW.PrintMore
attribute [local go_sem] max2_int min2_int max_two min_two max_three min_three max_four min_four   -- for this text's walks alone
set_option linter.unusedVariables false
set_option linter.unusedSimpArgs false

/-! ### leveeref07_Names: function 24 -/
def leveeref07_Names.l0 : Nat → List Int → Int → Int → Int → Int → Int → Int → Int → Int → Int → Int → Int → Int → Int → Option (List Int)
 | 0, _, _, _, _, _, _, _, _, _, _, _, _, _, _ => none
 | k + 1, x3, x4, x468000, x468001, x468002, x468003, x468004, x468005, x468006, x468007, x468008, x468009, x468010, x468011 => if x4 < 6 then (if x4 = (0 : Int) then (if x468004 = 0 then (leveeref07_Names.l0 k x3 (wrap64 (x4 + 1)) x468000 x468001 x468002 x468003 x468004 x468005 x468006 x468007 x468008 x468009 x468010 x468011) else (if x3.length < 17592186044416 then (leveeref07_Names.l0 k (x3 ++ [x468004]) (wrap64 (x4 + 1)) x468000 x468001 x468002 x468003 x468004 x468005 x468006 x468007 x468008 x468009 x468010 x468011) else (none))) else (if x4 = (1 : Int) then (if x468005 = 0 then (leveeref07_Names.l0 k x3 (wrap64 (x4 + 1)) x468000 x468001 x468002 x468003 x468004 x468005 x468006 x468007 x468008 x468009 x468010 x468011) else (if x3.length < 17592186044416 then (leveeref07_Names.l0 k (x3 ++ [x468005]) (wrap64 (x4 + 1)) x468000 x468001 x468002 x468003 x468004 x468005 x468006 x468007 x468008 x468009 x468010 x468011) else (none))) else (if x4 = (2 : Int) then (if x468006 = 0 then (leveeref07_Names.l0 k x3 (wrap64 (x4 + 1)) x468000 x468001 x468002 x468003 x468004 x468005 x468006 x468007 x468008 x468009 x468010 x468011) else (if x3.length < 17592186044416 then (leveeref07_Names.l0 k (x3 ++ [x468006]) (wrap64 (x4 + 1)) x468000 x468001 x468002 x468003 x468004 x468005 x468006 x468007 x468008 x468009 x468010 x468011) else (none))) else (if x4 = (3 : Int) then (if x468007 = 0 then (leveeref07_Names.l0 k x3 (wrap64 (x4 + 1)) x468000 x468001 x468002 x468003 x468004 x468005 x468006 x468007 x468008 x468009 x468010 x468011) else (if x3.length < 17592186044416 then (leveeref07_Names.l0 k (x3 ++ [x468007]) (wrap64 (x4 + 1)) x468000 x468001 x468002 x468003 x468004 x468005 x468006 x468007 x468008 x468009 x468010 x468011) else (none))) else (if x4 = (4 : Int) then (if x468008 = 0 then (leveeref07_Names.l0 k x3 (wrap64 (x4 + 1)) x468000 x468001 x468002 x468003 x468004 x468005 x468006 x468007 x468008 x468009 x468010 x468011) else (if x3.length < 17592186044416 then (leveeref07_Names.l0 k (x3 ++ [x468008]) (wrap64 (x4 + 1)) x468000 x468001 x468002 x468003 x468004 x468005 x468006 x468007 x468008 x468009 x468010 x468011) else (none))) else (if x4 = (5 : Int) then (if x468009 = 0 then (leveeref07_Names.l0 k x3 (wrap64 (x4 + 1)) x468000 x468001 x468002 x468003 x468004 x468005 x468006 x468007 x468008 x468009 x468010 x468011) else (if x3.length < 17592186044416 then (leveeref07_Names.l0 k (x3 ++ [x468009]) (wrap64 (x4 + 1)) x468000 x468001 x468002 x468003 x468004 x468005 x468006 x468007 x468008 x468009 x468010 x468011) else (none))) else (none))))))) else (if x468010 = 0 then (if x468011 = 0 then (some x3) else (if x3.length < 17592186044416 then (some (x3 ++ [x468011])) else (none))) else (if x3.length < 17592186044416 then ((some (x3 ++ [x468010] : List Int)).bind fun y489 => (if x468011 = 0 then (some y489) else (if y489.length < 17592186044416 then (some (y489 ++ [x468011])) else (none)))) else (none)))
def leveeref07_Names.f (k : Nat) (a0_0 : Int) (a0_1 : Int) (a0_2 : Int) (a0_3 : Int) (a0_4 : Int) (a0_5 : Int) (a0_6 : Int) (a0_7 : Int) (a0_8 : Int) (a0_9 : Int) (a0_10 : Int) (a0_11 : Int) : Option (List Int) := leveeref07_Names.l0 k ([] : List Int) 0 a0_0 a0_1 a0_2 a0_3 a0_4 a0_5 a0_6 a0_7 a0_8 a0_9 a0_10 a0_11
theorem leveeref07_Names.mono_l : ∀ k, (∀ y0 y1 y2 y3 y4 y5 y6 y7 y8 y9 y10 y11 y12 y13, LeO (leveeref07_Names.l0 k y0 y1 y2 y3 y4 y5 y6 y7 y8 y9 y10 y11 y12 y13) (leveeref07_Names.l0 (k + 1) y0 y1 y2 y3 y4 y5 y6 y7 y8 y9 y10 y11 y12 y13))
 | 0 => fun _ _ _ _ _ _ _ _ _ _ _ _ _ _ r h => by simp [leveeref07_Names.l0] at h
 | k + 1 => by
  have ih0 := leveeref07_Names.mono_l k
  ·intro y0 y1 y2 y3 y4 y5 y6 y7 y8 y9 y10 y11 y12 y13
   unfold leveeref07_Names.l0
   repeat' first
   | (with_reducible exact ih0 _ _ _ _ _ _ _ _ _ _ _ _ _ _)
   | (with_reducible exact LeO.refl _)
   | (with_reducible exact LeO.none _)
   | (with_reducible refine LeO.ite ?_ ?_)
   | (with_reducible refine LeO.bind ?_ (fun _ => ?_))
   | exact ih0 _ _ _ _ _ _ _ _ _ _ _ _ _ _
   | exact LeO.none _
   | refine LeO.ite ?_ ?_
   | refine LeO.bind ?_ (fun _ => ?_)
theorem leveeref07_Names.mono : ∀ a0 a1 a2 a3 a4 a5 a6 a7 a8 a9 a10 a11 k, LeO (leveeref07_Names.f k a0 a1 a2 a3 a4 a5 a6 a7 a8 a9 a10 a11) (leveeref07_Names.f (k + 1) a0 a1 a2 a3 a4 a5 a6 a7 a8 a9 a10 a11) := by
 intro a0 a1 a2 a3 a4 a5 a6 a7 a8 a9 a10 a11 k
 have ih0 := leveeref07_Names.mono_l k
 unfold leveeref07_Names.f
 repeat' first
   | (with_reducible exact ih0 _ _ _ _ _ _ _ _ _ _ _ _ _ _)
   | (with_reducible exact LeO.refl _)
   | (with_reducible exact LeO.none _)
   | (with_reducible refine LeO.ite ?_ ?_)
   | (with_reducible refine LeO.bind ?_ (fun _ => ?_))
   | exact ih0 _ _ _ _ _ _ _ _ _ _ _ _ _ _
   | exact LeO.none _
   | refine LeO.ite ?_ ?_
   | refine LeO.bind ?_ (fun _ => ?_)
set_option maxHeartbeats 8000000 in
set_option maxRecDepth 100000 in
theorem leveeref07_Names.calls (k : Nat) (a0_0 : Int) (a0_1 : Int) (a0_2 : Int) (a0_3 : Int) (a0_4 : Int) (a0_5 : Int) (a0_6 : Int) (a0_7 : Int) (a0_8 : Int) (a0_9 : Int) (a0_10 : Int) (a0_11 : Int) (r : List Int) (w : World) (h : leveeref07_Names.f k a0_0 a0_1 a0_2 a0_3 a0_4 a0_5 a0_6 a0_7 a0_8 a0_9 a0_10 a0_11 = some r) :
  Calls Try.prog 24 #[.agg #[.int .i64 a0_0, .int .i64 a0_1, .int .i64 a0_2, .int .i64 a0_3, .int .i64 a0_4, .int .i64 a0_5, .int .i64 a0_6, .int .i64 a0_7, .int .i64 a0_8, .int .i64 a0_9, .int .i64 a0_10, .int .i64 a0_11]] w fun e w' => ∃ v0_ : Value, e = .returned (v0_) ∧ Kd.R (Kd.int .i64) 3 w' w.heap.size (fun _ => True) v0_ r ∧ Below w.heap.size w w' := by
 have hu24 := Try.underlying24
 have HB := Aside0.mk (Below.refl w.heap.size w)
 have H : (leveeref07_Names.l0 k ([] : List Int) 0 a0_0 a0_1 a0_2 a0_3 a0_4 a0_5 a0_6 a0_7 a0_8 a0_9 a0_10 a0_11) = some r := h
 clear h
 have H' := Aside0.mk H
 clear H
 go_enter Try.func24, Try.ntmps24
 go_wp2_with (first | ((with_reducible refine gate_dst (N := 1) rfl ?_); refine box_event ?hg (N := 1) ?hd (cs := #[.int .i64 a0_0, .int .i64 a0_1, .int .i64 a0_2, .int .i64 a0_3, .int .i64 a0_4, .int .i64 a0_5, .int .i64 a0_6, .int .i64 a0_7, .int .i64 a0_8, .int .i64 a0_9, .int .i64 a0_10, .int .i64 a0_11]) (t := 24) ?hr ?_; (case hd => rfl); (case hg => rfl); (case hr => first | (go_simp; done) | (go_simp; rfl)); intro gb467 hg w2 hbox hb; have n0_ := Aside0.mk (below_step (by repeat (first | (with_reducible first | exact HB.out | apply below_alloc | apply pw_below_drewN | apply below_drew1) | exact HB.out)) hb); have n1_ := Aside0.mk (hbox); have n2_ := Aside0.mk ((by rw [hg]; exact (below_size (by repeat (first | (with_reducible first | exact HB.out | apply below_alloc | apply pw_below_drewN | apply below_drew1) | exact HB.out))) : w.heap.size ≤ gb467)); have n3_ := Aside0.mk ((by rw [hg]; exact (below_size (by repeat (first | (with_reducible first | exact HB.out | apply below_alloc | apply pw_below_drewN | apply below_drew1) | exact HB.out))) : w.heap.size ≤ gb467)); clear HB; have HB := n0_; have BK467 := n1_; have GW467 := n2_; have GE467 := n3_; clear n0_ n1_ n2_ n3_; clear hb hbox hg))
 go_loopg [3, 4] k (fun kq v3 v4 w' => ∃ (x3_1 : List Int) (x4_1 : Int), v4 = .int .i64 x4_1 ∧ Aside0 (leveeref07_Names.l0 kq x3_1 x4_1 a0_0 a0_1 a0_2 a0_3 a0_4 a0_5 a0_6 a0_7 a0_8 a0_9 a0_10 a0_11 = some r) ∧ Aside0 (kq ≤ k) ∧ Aside0 (Kd.R (Kd.int .i64) 3 w' w.heap.size (fun _ => True) v3 x3_1) ∧ Aside0 (w'.heap[gb467]? = some (.cells #[.int .i64 a0_0, .int .i64 a0_1, .int .i64 a0_2, .int .i64 a0_3, .int .i64 a0_4, .int .i64 a0_5, .int .i64 a0_6, .int .i64 a0_7, .int .i64 a0_8, .int .i64 a0_9, .int .i64 a0_10, .int .i64 a0_11] 24 (0, 0))) ∧ Aside0 (Below w.heap.size w w'))
 case atStart => exact ⟨(([] : List Int)), (0), (by first | rfl | (simp; done) | (simp [*]; done)), H', ⟨Nat.le_refl _⟩, ⟨by first | exact Kd.R_nil _ _ _ _ _ | exact Kd.N_nil _ _ _ _ _ | exact Kd.V_nil _ _ _ _ _ | exact Kd.Q_nil _ _ _ _ _ | exact Kd.S_nil _ _ _ _ _⟩, ⟨by (with_reducible repeat (first | refine blk_drewN ?_ _ | refine blk_drew ?_ | refine blk_alloc ?_ _)); exact BK467.out⟩, ⟨by repeat (first | (with_reducible first | exact HB.out | apply below_alloc | apply pw_below_drewN | apply below_drew1 | refine below_set ?_ GE467.out) | exact HB.out)⟩⟩
 case round =>
  clear H'
  try clear c2
  try clear p2
  obtain ⟨x3_1, x4_1, rfl, HA, HK1, HO_3, BK467, HB⟩ := hrel
  cases gk with
  | zero => exact absurd HA.out (by simp [leveeref07_Names.l0])
  | succ k1 =>
   have H := HA.out
   clear HA
   simp only [leveeref07_Names.l0] at H
   by_cases c3 : x4_1 < 6
   ·rw [if_pos c3] at H
    have c3b0 : decide (x4_1 < 6) = true := decide_eq_true c3
    clear c3
    by_cases c4 : x4_1 = (0 : Int)
    ·rw [if_pos c4] at H
     have c4z := Aside0.mk c4
     (try (have c4i : ∀ (t_ : TypeId) (v_ : Value), Instr.index t_ v_ (.int .i64 x4_1) = Instr.index t_ v_ (.int .i64 0) := fun _ _ => by rw [c4]))
     (try (have c4a : ∀ (t_ : TypeId) (v_ : Value), Instr.indexAt t_ v_ (.int .i64 x4_1) = Instr.indexAt t_ v_ (.int .i64 0) := fun _ _ => by rw [c4]))
     (try (have c4j22 : ∀ (W_ : World) (v0_ v1_ v2_ v3_ v4_ v5_ : Value), (Instr.index 22 (.agg #[v0_, v1_, v2_, v3_, v4_, v5_]) (.int .i64 0)).run Try.prog W_ = .ok v0_ W_ := by intros; kernel_rfl))
     (try (have c4j49 : ∀ (W_ : World) (v0_ v1_ v2_ v3_ v4_ v5_ v6_ v7_ : Value), (Instr.index 49 (.agg #[v0_, v1_, v2_, v3_, v4_, v5_, v6_, v7_]) (.int .i64 0)).run Try.prog W_ = .ok v0_ W_ := by intros; kernel_rfl))
     have c4b0 : (x4_1 == (0 : Int)) = true := beq_iff_eq.mpr c4
     have c4b1 : (x4_1 != (0 : Int)) = false := bne_eq_false_iff_eq.mpr c4
     clear c4
     by_cases c5 : a0_4 = 0
     ·rw [if_pos c5] at H
      have c5b0 : (a0_4 == 0) = true := beq_iff_eq.mpr c5
      have c5b1 : (a0_4 != 0) = false := bne_eq_false_iff_eq.mpr c5
      clear c5
      have H' := Aside0.mk H
      clear H
      have q_ := cells12 BK467.out; have hcz6_0 := q_.c0; have hcz6_1 := q_.c1; have hcz6_2 := q_.c2; have hcz6_3 := q_.c3; have hcz6_4 := q_.c4; have hcz6_5 := q_.c5; have hcz6_6 := q_.c6; have hcz6_7 := q_.c7; have hcz6_8 := q_.c8; have hcz6_9 := q_.c9; have hcz6_10 := q_.c10; have hcz6_11 := q_.c11; have hfz6_0 := q_.f0; have hfz6_1 := q_.f1; have hfz6_2 := q_.f2; have hfz6_3 := q_.f3; have hfz6_4 := q_.f4; have hfz6_5 := q_.f5; have hfz6_6 := q_.f6; have hfz6_7 := q_.f7; have hfz6_8 := q_.f8; have hfz6_9 := q_.f9; have hfz6_10 := q_.f10; have hfz6_11 := q_.f11; clear q_
      go_wp2
      go_roundg k1
      case measure => have := HK1.out; omega
      case rel => exact ⟨(x3_1), (wrap64 (x4_1 + 1)), (by first | rfl | (simp; done) | (simp [*]; done) | (have hz_ := c4z.out; congr 1; unfold wrap64; omega)), H', ⟨by have := HK1.out; omega⟩, ⟨by (with_reducible repeat (first | apply Kd.R_alloc | apply Kd.R_drewN | apply Kd.R_drew)); exact HO_3.out⟩, ⟨by (with_reducible repeat (first | refine blk_drewN ?_ _ | refine blk_drew ?_ | refine blk_alloc ?_ _)); exact BK467.out⟩, ⟨by repeat (first | (with_reducible first | exact HB.out | apply below_alloc | apply pw_below_drewN | apply below_drew1 | refine below_set ?_ GE467.out) | exact HB.out)⟩⟩
     ·rw [if_neg c5] at H
      have c5b0 : (a0_4 == 0) = false := beq_eq_false_iff_ne.mpr c5
      have c5b1 : (a0_4 != 0) = true := bne_iff_ne.mpr c5
      by_cases c7 : x3_1.length < 17592186044416
      ·rw [if_pos c7] at H
       have LMc7 := Aside0.mk c7
       clear c7
       obtain ⟨y468, hy468⟩ : ∃ y_ : List Int, y_ = (x3_1 ++ [a0_4]) := ⟨_, rfl⟩
       replace H : (leveeref07_Names.l0 k1 y468 (wrap64 (x4_1 + 1)) a0_0 a0_1 a0_2 a0_3 a0_4 a0_5 a0_6 a0_7 a0_8 a0_9 a0_10 a0_11) = some r := by first | (rw [hy468]; with_reducible exact H) | (have H2_ := (Option.bind_some _ _).symm.trans H; rw [hy468]; with_reducible exact H2_) | (have H2_ := (Option.bind_some _ _).symm.trans H; with_reducible exact H2_) | with_reducible exact H | (rw [hy468]; exact H) | exact H
       have Ny468 := Aside0.mk hy468
       clear hy468
       have H' := Aside0.mk H
       clear H
       have q_ := cells12 BK467.out; have hcz8_0 := q_.c0; have hcz8_1 := q_.c1; have hcz8_2 := q_.c2; have hcz8_3 := q_.c3; have hcz8_4 := q_.c4; have hcz8_5 := q_.c5; have hcz8_6 := q_.c6; have hcz8_7 := q_.c7; have hcz8_8 := q_.c8; have hcz8_9 := q_.c9; have hcz8_10 := q_.c10; have hcz8_11 := q_.c11; have hfz8_0 := q_.f0; have hfz8_1 := q_.f1; have hfz8_2 := q_.f2; have hfz8_3 := q_.f3; have hfz8_4 := q_.f4; have hfz8_5 := q_.f5; have hfz8_6 := q_.f6; have hfz8_7 := q_.f7; have hfz8_8 := q_.f8; have hfz8_9 := q_.f9; have hfz8_10 := q_.f10; have hfz8_11 := q_.f11; clear q_
       go_wp2_with (first | ((with_reducible refine gate_builtin (b := .append) (xs := #[.tmp 14, .tmp 19]) rfl ?_); at_builtin; refine Kd.R_append (Kd.int .i64) (w0 := w) w.heap.size rfl (.tmp 14) (.tmp 19) 44 3 (.int .i64 0) 8 rfl Try.underlying44 info3 rfl (by decide) (by omega) u3 x3_1 a0_4 [.int .i64 a0_4] (fun _ => True) (fun _ => False) rfl rfl ?aP (fun _ hk => hk.elim) ?aF ?aO ?aB ?aS ?aL ?_; (case aP => exact rfl); (case aB => exact (by repeat (first | (with_reducible first | exact HB.out | apply below_alloc | apply pw_below_drewN | apply below_drew1 | refine below_set ?_ GE467.out) | exact HB.out))); (case aF => exact (fun _ _ => trivial)); (case aO => exact (by (with_reducible repeat (first | apply Kd.R_alloc | apply Kd.R_drewN | apply Kd.R_drew)); exact HO_3.out)); (case aS => exact (below_size (by repeat (first | (with_reducible first | exact HB.out | apply below_alloc | apply pw_below_drewN | apply below_drew1 | refine below_set ?_ GE467.out) | exact HB.out)))); (case aL => have := LMc7.out; omega); intro v469 w9 ho hb hg hat; rw [← Ny468.out] at ho; have n0_ := Aside0.mk (blk_grown (g := gb467) (o := .cells #[.int .i64 a0_0, .int .i64 a0_1, .int .i64 a0_2, .int .i64 a0_3, .int .i64 a0_4, .int .i64 a0_5, .int .i64 a0_6, .int .i64 a0_7, .int .i64 a0_8, .int .i64 a0_9, .int .i64 a0_10, .int .i64 a0_11] 24 (0, 0)) (by (with_reducible repeat (first | refine blk_drewN ?_ _ | refine blk_drew ?_ | refine blk_alloc ?_ _)); exact BK467.out) hg (Kd.R_ne HO_3.out BK467.out (by decide))); have n1_ := Aside0.mk (hb); have n2_ := Aside0.mk (ho); clear BK467; clear HB; clear HO_3; have BK467 := n0_; have HB := n1_; have HO470 := n2_; clear n0_ n1_ n2_; clear ho hb hg hat))
       go_roundg k1
       case measure => have := HK1.out; omega
       case rel => exact ⟨(y468), (wrap64 (x4_1 + 1)), (by first | rfl | (simp; done) | (simp [*]; done) | (have hz_ := c4z.out; congr 1; unfold wrap64; omega)), H', ⟨by have := HK1.out; omega⟩, ⟨by (with_reducible repeat (first | apply Kd.R_alloc | apply Kd.R_drewN | apply Kd.R_drew)); exact HO470.out⟩, ⟨by (with_reducible repeat (first | refine blk_drewN ?_ _ | refine blk_drew ?_ | refine blk_alloc ?_ _)); exact BK467.out⟩, ⟨by repeat (first | (with_reducible first | exact HB.out | apply below_alloc | apply pw_below_drewN | apply below_drew1 | refine below_set ?_ GE467.out) | exact HB.out)⟩⟩
      ·rw [if_neg c7] at H
       exact absurd H (by simp)
    ·rw [if_neg c4] at H
     have c4b0 : (x4_1 == (0 : Int)) = false := beq_eq_false_iff_ne.mpr c4
     have c4b1 : (x4_1 != (0 : Int)) = true := bne_iff_ne.mpr c4
     by_cases c10 : x4_1 = (1 : Int)
     ·rw [if_pos c10] at H
      have c10z := Aside0.mk c10
      (try (have c10i : ∀ (t_ : TypeId) (v_ : Value), Instr.index t_ v_ (.int .i64 x4_1) = Instr.index t_ v_ (.int .i64 1) := fun _ _ => by rw [c10]))
      (try (have c10a : ∀ (t_ : TypeId) (v_ : Value), Instr.indexAt t_ v_ (.int .i64 x4_1) = Instr.indexAt t_ v_ (.int .i64 1) := fun _ _ => by rw [c10]))
      (try (have c10j22 : ∀ (W_ : World) (v0_ v1_ v2_ v3_ v4_ v5_ : Value), (Instr.index 22 (.agg #[v0_, v1_, v2_, v3_, v4_, v5_]) (.int .i64 1)).run Try.prog W_ = .ok v1_ W_ := by intros; kernel_rfl))
      (try (have c10j49 : ∀ (W_ : World) (v0_ v1_ v2_ v3_ v4_ v5_ v6_ v7_ : Value), (Instr.index 49 (.agg #[v0_, v1_, v2_, v3_, v4_, v5_, v6_, v7_]) (.int .i64 1)).run Try.prog W_ = .ok v1_ W_ := by intros; kernel_rfl))
      have c10b0 : (x4_1 == (1 : Int)) = true := beq_iff_eq.mpr c10
      have c10b1 : (x4_1 != (1 : Int)) = false := bne_eq_false_iff_eq.mpr c10
      clear c10
      by_cases c11 : a0_5 = 0
      ·rw [if_pos c11] at H
       have c11b0 : (a0_5 == 0) = true := beq_iff_eq.mpr c11
       have c11b1 : (a0_5 != 0) = false := bne_eq_false_iff_eq.mpr c11
       clear c11
       have H' := Aside0.mk H
       clear H
       have q_ := cells12 BK467.out; have hcz12_0 := q_.c0; have hcz12_1 := q_.c1; have hcz12_2 := q_.c2; have hcz12_3 := q_.c3; have hcz12_4 := q_.c4; have hcz12_5 := q_.c5; have hcz12_6 := q_.c6; have hcz12_7 := q_.c7; have hcz12_8 := q_.c8; have hcz12_9 := q_.c9; have hcz12_10 := q_.c10; have hcz12_11 := q_.c11; have hfz12_0 := q_.f0; have hfz12_1 := q_.f1; have hfz12_2 := q_.f2; have hfz12_3 := q_.f3; have hfz12_4 := q_.f4; have hfz12_5 := q_.f5; have hfz12_6 := q_.f6; have hfz12_7 := q_.f7; have hfz12_8 := q_.f8; have hfz12_9 := q_.f9; have hfz12_10 := q_.f10; have hfz12_11 := q_.f11; clear q_
       go_wp2
       go_roundg k1
       case measure => have := HK1.out; omega
       case rel => exact ⟨(x3_1), (wrap64 (x4_1 + 1)), (by first | rfl | (simp; done) | (simp [*]; done) | (have hz_ := c10z.out; congr 1; unfold wrap64; omega)), H', ⟨by have := HK1.out; omega⟩, ⟨by (with_reducible repeat (first | apply Kd.R_alloc | apply Kd.R_drewN | apply Kd.R_drew)); exact HO_3.out⟩, ⟨by (with_reducible repeat (first | refine blk_drewN ?_ _ | refine blk_drew ?_ | refine blk_alloc ?_ _)); exact BK467.out⟩, ⟨by repeat (first | (with_reducible first | exact HB.out | apply below_alloc | apply pw_below_drewN | apply below_drew1 | refine below_set ?_ GE467.out) | exact HB.out)⟩⟩
      ·rw [if_neg c11] at H
       have c11b0 : (a0_5 == 0) = false := beq_eq_false_iff_ne.mpr c11
       have c11b1 : (a0_5 != 0) = true := bne_iff_ne.mpr c11
       by_cases c13 : x3_1.length < 17592186044416
       ·rw [if_pos c13] at H
        have LMc13 := Aside0.mk c13
        clear c13
        obtain ⟨y471, hy471⟩ : ∃ y_ : List Int, y_ = (x3_1 ++ [a0_5]) := ⟨_, rfl⟩
        replace H : (leveeref07_Names.l0 k1 y471 (wrap64 (x4_1 + 1)) a0_0 a0_1 a0_2 a0_3 a0_4 a0_5 a0_6 a0_7 a0_8 a0_9 a0_10 a0_11) = some r := by first | (rw [hy471]; with_reducible exact H) | (have H2_ := (Option.bind_some _ _).symm.trans H; rw [hy471]; with_reducible exact H2_) | (have H2_ := (Option.bind_some _ _).symm.trans H; with_reducible exact H2_) | with_reducible exact H | (rw [hy471]; exact H) | exact H
        have Ny471 := Aside0.mk hy471
        clear hy471
        have H' := Aside0.mk H
        clear H
        have q_ := cells12 BK467.out; have hcz14_0 := q_.c0; have hcz14_1 := q_.c1; have hcz14_2 := q_.c2; have hcz14_3 := q_.c3; have hcz14_4 := q_.c4; have hcz14_5 := q_.c5; have hcz14_6 := q_.c6; have hcz14_7 := q_.c7; have hcz14_8 := q_.c8; have hcz14_9 := q_.c9; have hcz14_10 := q_.c10; have hcz14_11 := q_.c11; have hfz14_0 := q_.f0; have hfz14_1 := q_.f1; have hfz14_2 := q_.f2; have hfz14_3 := q_.f3; have hfz14_4 := q_.f4; have hfz14_5 := q_.f5; have hfz14_6 := q_.f6; have hfz14_7 := q_.f7; have hfz14_8 := q_.f8; have hfz14_9 := q_.f9; have hfz14_10 := q_.f10; have hfz14_11 := q_.f11; clear q_
        go_wp2_with (first | ((with_reducible refine gate_builtin (b := .append) (xs := #[.tmp 14, .tmp 19]) rfl ?_); at_builtin; refine Kd.R_append (Kd.int .i64) (w0 := w) w.heap.size rfl (.tmp 14) (.tmp 19) 44 3 (.int .i64 0) 8 rfl Try.underlying44 info3 rfl (by decide) (by omega) u3 x3_1 a0_5 [.int .i64 a0_5] (fun _ => True) (fun _ => False) rfl rfl ?aP (fun _ hk => hk.elim) ?aF ?aO ?aB ?aS ?aL ?_; (case aP => exact rfl); (case aB => exact (by repeat (first | (with_reducible first | exact HB.out | apply below_alloc | apply pw_below_drewN | apply below_drew1 | refine below_set ?_ GE467.out) | exact HB.out))); (case aF => exact (fun _ _ => trivial)); (case aO => exact (by (with_reducible repeat (first | apply Kd.R_alloc | apply Kd.R_drewN | apply Kd.R_drew)); exact HO_3.out)); (case aS => exact (below_size (by repeat (first | (with_reducible first | exact HB.out | apply below_alloc | apply pw_below_drewN | apply below_drew1 | refine below_set ?_ GE467.out) | exact HB.out)))); (case aL => have := LMc13.out; omega); intro v472 w15 ho hb hg hat; rw [← Ny471.out] at ho; have n0_ := Aside0.mk (blk_grown (g := gb467) (o := .cells #[.int .i64 a0_0, .int .i64 a0_1, .int .i64 a0_2, .int .i64 a0_3, .int .i64 a0_4, .int .i64 a0_5, .int .i64 a0_6, .int .i64 a0_7, .int .i64 a0_8, .int .i64 a0_9, .int .i64 a0_10, .int .i64 a0_11] 24 (0, 0)) (by (with_reducible repeat (first | refine blk_drewN ?_ _ | refine blk_drew ?_ | refine blk_alloc ?_ _)); exact BK467.out) hg (Kd.R_ne HO_3.out BK467.out (by decide))); have n1_ := Aside0.mk (hb); have n2_ := Aside0.mk (ho); clear BK467; clear HB; clear HO_3; have BK467 := n0_; have HB := n1_; have HO473 := n2_; clear n0_ n1_ n2_; clear ho hb hg hat))
        go_roundg k1
        case measure => have := HK1.out; omega
        case rel => exact ⟨(y471), (wrap64 (x4_1 + 1)), (by first | rfl | (simp; done) | (simp [*]; done) | (have hz_ := c10z.out; congr 1; unfold wrap64; omega)), H', ⟨by have := HK1.out; omega⟩, ⟨by (with_reducible repeat (first | apply Kd.R_alloc | apply Kd.R_drewN | apply Kd.R_drew)); exact HO473.out⟩, ⟨by (with_reducible repeat (first | refine blk_drewN ?_ _ | refine blk_drew ?_ | refine blk_alloc ?_ _)); exact BK467.out⟩, ⟨by repeat (first | (with_reducible first | exact HB.out | apply below_alloc | apply pw_below_drewN | apply below_drew1 | refine below_set ?_ GE467.out) | exact HB.out)⟩⟩
       ·rw [if_neg c13] at H
        exact absurd H (by simp)
     ·rw [if_neg c10] at H
      have c10b0 : (x4_1 == (1 : Int)) = false := beq_eq_false_iff_ne.mpr c10
      have c10b1 : (x4_1 != (1 : Int)) = true := bne_iff_ne.mpr c10
      by_cases c16 : x4_1 = (2 : Int)
      ·rw [if_pos c16] at H
       have c16z := Aside0.mk c16
       (try (have c16i : ∀ (t_ : TypeId) (v_ : Value), Instr.index t_ v_ (.int .i64 x4_1) = Instr.index t_ v_ (.int .i64 2) := fun _ _ => by rw [c16]))
       (try (have c16a : ∀ (t_ : TypeId) (v_ : Value), Instr.indexAt t_ v_ (.int .i64 x4_1) = Instr.indexAt t_ v_ (.int .i64 2) := fun _ _ => by rw [c16]))
       (try (have c16j22 : ∀ (W_ : World) (v0_ v1_ v2_ v3_ v4_ v5_ : Value), (Instr.index 22 (.agg #[v0_, v1_, v2_, v3_, v4_, v5_]) (.int .i64 2)).run Try.prog W_ = .ok v2_ W_ := by intros; kernel_rfl))
       (try (have c16j49 : ∀ (W_ : World) (v0_ v1_ v2_ v3_ v4_ v5_ v6_ v7_ : Value), (Instr.index 49 (.agg #[v0_, v1_, v2_, v3_, v4_, v5_, v6_, v7_]) (.int .i64 2)).run Try.prog W_ = .ok v2_ W_ := by intros; kernel_rfl))
       have c16b0 : (x4_1 == (2 : Int)) = true := beq_iff_eq.mpr c16
       have c16b1 : (x4_1 != (2 : Int)) = false := bne_eq_false_iff_eq.mpr c16
       clear c16
       by_cases c17 : a0_6 = 0
       ·rw [if_pos c17] at H
        have c17b0 : (a0_6 == 0) = true := beq_iff_eq.mpr c17
        have c17b1 : (a0_6 != 0) = false := bne_eq_false_iff_eq.mpr c17
        clear c17
        have H' := Aside0.mk H
        clear H
        have q_ := cells12 BK467.out; have hcz18_0 := q_.c0; have hcz18_1 := q_.c1; have hcz18_2 := q_.c2; have hcz18_3 := q_.c3; have hcz18_4 := q_.c4; have hcz18_5 := q_.c5; have hcz18_6 := q_.c6; have hcz18_7 := q_.c7; have hcz18_8 := q_.c8; have hcz18_9 := q_.c9; have hcz18_10 := q_.c10; have hcz18_11 := q_.c11; have hfz18_0 := q_.f0; have hfz18_1 := q_.f1; have hfz18_2 := q_.f2; have hfz18_3 := q_.f3; have hfz18_4 := q_.f4; have hfz18_5 := q_.f5; have hfz18_6 := q_.f6; have hfz18_7 := q_.f7; have hfz18_8 := q_.f8; have hfz18_9 := q_.f9; have hfz18_10 := q_.f10; have hfz18_11 := q_.f11; clear q_
        go_wp2
        go_roundg k1
        case measure => have := HK1.out; omega
        case rel => exact ⟨(x3_1), (wrap64 (x4_1 + 1)), (by first | rfl | (simp; done) | (simp [*]; done) | (have hz_ := c16z.out; congr 1; unfold wrap64; omega)), H', ⟨by have := HK1.out; omega⟩, ⟨by (with_reducible repeat (first | apply Kd.R_alloc | apply Kd.R_drewN | apply Kd.R_drew)); exact HO_3.out⟩, ⟨by (with_reducible repeat (first | refine blk_drewN ?_ _ | refine blk_drew ?_ | refine blk_alloc ?_ _)); exact BK467.out⟩, ⟨by repeat (first | (with_reducible first | exact HB.out | apply below_alloc | apply pw_below_drewN | apply below_drew1 | refine below_set ?_ GE467.out) | exact HB.out)⟩⟩
       ·rw [if_neg c17] at H
        have c17b0 : (a0_6 == 0) = false := beq_eq_false_iff_ne.mpr c17
        have c17b1 : (a0_6 != 0) = true := bne_iff_ne.mpr c17
        by_cases c19 : x3_1.length < 17592186044416
        ·rw [if_pos c19] at H
         have LMc19 := Aside0.mk c19
         clear c19
         obtain ⟨y474, hy474⟩ : ∃ y_ : List Int, y_ = (x3_1 ++ [a0_6]) := ⟨_, rfl⟩
         replace H : (leveeref07_Names.l0 k1 y474 (wrap64 (x4_1 + 1)) a0_0 a0_1 a0_2 a0_3 a0_4 a0_5 a0_6 a0_7 a0_8 a0_9 a0_10 a0_11) = some r := by first | (rw [hy474]; with_reducible exact H) | (have H2_ := (Option.bind_some _ _).symm.trans H; rw [hy474]; with_reducible exact H2_) | (have H2_ := (Option.bind_some _ _).symm.trans H; with_reducible exact H2_) | with_reducible exact H | (rw [hy474]; exact H) | exact H
         have Ny474 := Aside0.mk hy474
         clear hy474
         have H' := Aside0.mk H
         clear H
         have q_ := cells12 BK467.out; have hcz20_0 := q_.c0; have hcz20_1 := q_.c1; have hcz20_2 := q_.c2; have hcz20_3 := q_.c3; have hcz20_4 := q_.c4; have hcz20_5 := q_.c5; have hcz20_6 := q_.c6; have hcz20_7 := q_.c7; have hcz20_8 := q_.c8; have hcz20_9 := q_.c9; have hcz20_10 := q_.c10; have hcz20_11 := q_.c11; have hfz20_0 := q_.f0; have hfz20_1 := q_.f1; have hfz20_2 := q_.f2; have hfz20_3 := q_.f3; have hfz20_4 := q_.f4; have hfz20_5 := q_.f5; have hfz20_6 := q_.f6; have hfz20_7 := q_.f7; have hfz20_8 := q_.f8; have hfz20_9 := q_.f9; have hfz20_10 := q_.f10; have hfz20_11 := q_.f11; clear q_
         go_wp2_with (first | ((with_reducible refine gate_builtin (b := .append) (xs := #[.tmp 14, .tmp 19]) rfl ?_); at_builtin; refine Kd.R_append (Kd.int .i64) (w0 := w) w.heap.size rfl (.tmp 14) (.tmp 19) 44 3 (.int .i64 0) 8 rfl Try.underlying44 info3 rfl (by decide) (by omega) u3 x3_1 a0_6 [.int .i64 a0_6] (fun _ => True) (fun _ => False) rfl rfl ?aP (fun _ hk => hk.elim) ?aF ?aO ?aB ?aS ?aL ?_; (case aP => exact rfl); (case aB => exact (by repeat (first | (with_reducible first | exact HB.out | apply below_alloc | apply pw_below_drewN | apply below_drew1 | refine below_set ?_ GE467.out) | exact HB.out))); (case aF => exact (fun _ _ => trivial)); (case aO => exact (by (with_reducible repeat (first | apply Kd.R_alloc | apply Kd.R_drewN | apply Kd.R_drew)); exact HO_3.out)); (case aS => exact (below_size (by repeat (first | (with_reducible first | exact HB.out | apply below_alloc | apply pw_below_drewN | apply below_drew1 | refine below_set ?_ GE467.out) | exact HB.out)))); (case aL => have := LMc19.out; omega); intro v475 w21 ho hb hg hat; rw [← Ny474.out] at ho; have n0_ := Aside0.mk (blk_grown (g := gb467) (o := .cells #[.int .i64 a0_0, .int .i64 a0_1, .int .i64 a0_2, .int .i64 a0_3, .int .i64 a0_4, .int .i64 a0_5, .int .i64 a0_6, .int .i64 a0_7, .int .i64 a0_8, .int .i64 a0_9, .int .i64 a0_10, .int .i64 a0_11] 24 (0, 0)) (by (with_reducible repeat (first | refine blk_drewN ?_ _ | refine blk_drew ?_ | refine blk_alloc ?_ _)); exact BK467.out) hg (Kd.R_ne HO_3.out BK467.out (by decide))); have n1_ := Aside0.mk (hb); have n2_ := Aside0.mk (ho); clear BK467; clear HB; clear HO_3; have BK467 := n0_; have HB := n1_; have HO476 := n2_; clear n0_ n1_ n2_; clear ho hb hg hat))
         go_roundg k1
         case measure => have := HK1.out; omega
         case rel => exact ⟨(y474), (wrap64 (x4_1 + 1)), (by first | rfl | (simp; done) | (simp [*]; done) | (have hz_ := c16z.out; congr 1; unfold wrap64; omega)), H', ⟨by have := HK1.out; omega⟩, ⟨by (with_reducible repeat (first | apply Kd.R_alloc | apply Kd.R_drewN | apply Kd.R_drew)); exact HO476.out⟩, ⟨by (with_reducible repeat (first | refine blk_drewN ?_ _ | refine blk_drew ?_ | refine blk_alloc ?_ _)); exact BK467.out⟩, ⟨by repeat (first | (with_reducible first | exact HB.out | apply below_alloc | apply pw_below_drewN | apply below_drew1 | refine below_set ?_ GE467.out) | exact HB.out)⟩⟩
        ·rw [if_neg c19] at H
         exact absurd H (by simp)
      ·rw [if_neg c16] at H
       have c16b0 : (x4_1 == (2 : Int)) = false := beq_eq_false_iff_ne.mpr c16
       have c16b1 : (x4_1 != (2 : Int)) = true := bne_iff_ne.mpr c16
       by_cases c22 : x4_1 = (3 : Int)
       ·rw [if_pos c22] at H
        have c22z := Aside0.mk c22
        (try (have c22i : ∀ (t_ : TypeId) (v_ : Value), Instr.index t_ v_ (.int .i64 x4_1) = Instr.index t_ v_ (.int .i64 3) := fun _ _ => by rw [c22]))
        (try (have c22a : ∀ (t_ : TypeId) (v_ : Value), Instr.indexAt t_ v_ (.int .i64 x4_1) = Instr.indexAt t_ v_ (.int .i64 3) := fun _ _ => by rw [c22]))
        (try (have c22j22 : ∀ (W_ : World) (v0_ v1_ v2_ v3_ v4_ v5_ : Value), (Instr.index 22 (.agg #[v0_, v1_, v2_, v3_, v4_, v5_]) (.int .i64 3)).run Try.prog W_ = .ok v3_ W_ := by intros; kernel_rfl))
        (try (have c22j49 : ∀ (W_ : World) (v0_ v1_ v2_ v3_ v4_ v5_ v6_ v7_ : Value), (Instr.index 49 (.agg #[v0_, v1_, v2_, v3_, v4_, v5_, v6_, v7_]) (.int .i64 3)).run Try.prog W_ = .ok v3_ W_ := by intros; kernel_rfl))
        have c22b0 : (x4_1 == (3 : Int)) = true := beq_iff_eq.mpr c22
        have c22b1 : (x4_1 != (3 : Int)) = false := bne_eq_false_iff_eq.mpr c22
        clear c22
        by_cases c23 : a0_7 = 0
        ·rw [if_pos c23] at H
         have c23b0 : (a0_7 == 0) = true := beq_iff_eq.mpr c23
         have c23b1 : (a0_7 != 0) = false := bne_eq_false_iff_eq.mpr c23
         clear c23
         have H' := Aside0.mk H
         clear H
         have q_ := cells12 BK467.out; have hcz24_0 := q_.c0; have hcz24_1 := q_.c1; have hcz24_2 := q_.c2; have hcz24_3 := q_.c3; have hcz24_4 := q_.c4; have hcz24_5 := q_.c5; have hcz24_6 := q_.c6; have hcz24_7 := q_.c7; have hcz24_8 := q_.c8; have hcz24_9 := q_.c9; have hcz24_10 := q_.c10; have hcz24_11 := q_.c11; have hfz24_0 := q_.f0; have hfz24_1 := q_.f1; have hfz24_2 := q_.f2; have hfz24_3 := q_.f3; have hfz24_4 := q_.f4; have hfz24_5 := q_.f5; have hfz24_6 := q_.f6; have hfz24_7 := q_.f7; have hfz24_8 := q_.f8; have hfz24_9 := q_.f9; have hfz24_10 := q_.f10; have hfz24_11 := q_.f11; clear q_
         go_wp2
         go_roundg k1
         case measure => have := HK1.out; omega
         case rel => exact ⟨(x3_1), (wrap64 (x4_1 + 1)), (by first | rfl | (simp; done) | (simp [*]; done) | (have hz_ := c22z.out; congr 1; unfold wrap64; omega)), H', ⟨by have := HK1.out; omega⟩, ⟨by (with_reducible repeat (first | apply Kd.R_alloc | apply Kd.R_drewN | apply Kd.R_drew)); exact HO_3.out⟩, ⟨by (with_reducible repeat (first | refine blk_drewN ?_ _ | refine blk_drew ?_ | refine blk_alloc ?_ _)); exact BK467.out⟩, ⟨by repeat (first | (with_reducible first | exact HB.out | apply below_alloc | apply pw_below_drewN | apply below_drew1 | refine below_set ?_ GE467.out) | exact HB.out)⟩⟩
        ·rw [if_neg c23] at H
         have c23b0 : (a0_7 == 0) = false := beq_eq_false_iff_ne.mpr c23
         have c23b1 : (a0_7 != 0) = true := bne_iff_ne.mpr c23
         by_cases c25 : x3_1.length < 17592186044416
         ·rw [if_pos c25] at H
          have LMc25 := Aside0.mk c25
          clear c25
          obtain ⟨y477, hy477⟩ : ∃ y_ : List Int, y_ = (x3_1 ++ [a0_7]) := ⟨_, rfl⟩
          replace H : (leveeref07_Names.l0 k1 y477 (wrap64 (x4_1 + 1)) a0_0 a0_1 a0_2 a0_3 a0_4 a0_5 a0_6 a0_7 a0_8 a0_9 a0_10 a0_11) = some r := by first | (rw [hy477]; with_reducible exact H) | (have H2_ := (Option.bind_some _ _).symm.trans H; rw [hy477]; with_reducible exact H2_) | (have H2_ := (Option.bind_some _ _).symm.trans H; with_reducible exact H2_) | with_reducible exact H | (rw [hy477]; exact H) | exact H
          have Ny477 := Aside0.mk hy477
          clear hy477
          have H' := Aside0.mk H
          clear H
          have q_ := cells12 BK467.out; have hcz26_0 := q_.c0; have hcz26_1 := q_.c1; have hcz26_2 := q_.c2; have hcz26_3 := q_.c3; have hcz26_4 := q_.c4; have hcz26_5 := q_.c5; have hcz26_6 := q_.c6; have hcz26_7 := q_.c7; have hcz26_8 := q_.c8; have hcz26_9 := q_.c9; have hcz26_10 := q_.c10; have hcz26_11 := q_.c11; have hfz26_0 := q_.f0; have hfz26_1 := q_.f1; have hfz26_2 := q_.f2; have hfz26_3 := q_.f3; have hfz26_4 := q_.f4; have hfz26_5 := q_.f5; have hfz26_6 := q_.f6; have hfz26_7 := q_.f7; have hfz26_8 := q_.f8; have hfz26_9 := q_.f9; have hfz26_10 := q_.f10; have hfz26_11 := q_.f11; clear q_
          go_wp2_with (first | ((with_reducible refine gate_builtin (b := .append) (xs := #[.tmp 14, .tmp 19]) rfl ?_); at_builtin; refine Kd.R_append (Kd.int .i64) (w0 := w) w.heap.size rfl (.tmp 14) (.tmp 19) 44 3 (.int .i64 0) 8 rfl Try.underlying44 info3 rfl (by decide) (by omega) u3 x3_1 a0_7 [.int .i64 a0_7] (fun _ => True) (fun _ => False) rfl rfl ?aP (fun _ hk => hk.elim) ?aF ?aO ?aB ?aS ?aL ?_; (case aP => exact rfl); (case aB => exact (by repeat (first | (with_reducible first | exact HB.out | apply below_alloc | apply pw_below_drewN | apply below_drew1 | refine below_set ?_ GE467.out) | exact HB.out))); (case aF => exact (fun _ _ => trivial)); (case aO => exact (by (with_reducible repeat (first | apply Kd.R_alloc | apply Kd.R_drewN | apply Kd.R_drew)); exact HO_3.out)); (case aS => exact (below_size (by repeat (first | (with_reducible first | exact HB.out | apply below_alloc | apply pw_below_drewN | apply below_drew1 | refine below_set ?_ GE467.out) | exact HB.out)))); (case aL => have := LMc25.out; omega); intro v478 w27 ho hb hg hat; rw [← Ny477.out] at ho; have n0_ := Aside0.mk (blk_grown (g := gb467) (o := .cells #[.int .i64 a0_0, .int .i64 a0_1, .int .i64 a0_2, .int .i64 a0_3, .int .i64 a0_4, .int .i64 a0_5, .int .i64 a0_6, .int .i64 a0_7, .int .i64 a0_8, .int .i64 a0_9, .int .i64 a0_10, .int .i64 a0_11] 24 (0, 0)) (by (with_reducible repeat (first | refine blk_drewN ?_ _ | refine blk_drew ?_ | refine blk_alloc ?_ _)); exact BK467.out) hg (Kd.R_ne HO_3.out BK467.out (by decide))); have n1_ := Aside0.mk (hb); have n2_ := Aside0.mk (ho); clear BK467; clear HB; clear HO_3; have BK467 := n0_; have HB := n1_; have HO479 := n2_; clear n0_ n1_ n2_; clear ho hb hg hat))
          go_roundg k1
          case measure => have := HK1.out; omega
          case rel => exact ⟨(y477), (wrap64 (x4_1 + 1)), (by first | rfl | (simp; done) | (simp [*]; done) | (have hz_ := c22z.out; congr 1; unfold wrap64; omega)), H', ⟨by have := HK1.out; omega⟩, ⟨by (with_reducible repeat (first | apply Kd.R_alloc | apply Kd.R_drewN | apply Kd.R_drew)); exact HO479.out⟩, ⟨by (with_reducible repeat (first | refine blk_drewN ?_ _ | refine blk_drew ?_ | refine blk_alloc ?_ _)); exact BK467.out⟩, ⟨by repeat (first | (with_reducible first | exact HB.out | apply below_alloc | apply pw_below_drewN | apply below_drew1 | refine below_set ?_ GE467.out) | exact HB.out)⟩⟩
         ·rw [if_neg c25] at H
          exact absurd H (by simp)
       ·rw [if_neg c22] at H
        have c22b0 : (x4_1 == (3 : Int)) = false := beq_eq_false_iff_ne.mpr c22
        have c22b1 : (x4_1 != (3 : Int)) = true := bne_iff_ne.mpr c22
        by_cases c28 : x4_1 = (4 : Int)
        ·rw [if_pos c28] at H
         have c28z := Aside0.mk c28
         (try (have c28i : ∀ (t_ : TypeId) (v_ : Value), Instr.index t_ v_ (.int .i64 x4_1) = Instr.index t_ v_ (.int .i64 4) := fun _ _ => by rw [c28]))
         (try (have c28a : ∀ (t_ : TypeId) (v_ : Value), Instr.indexAt t_ v_ (.int .i64 x4_1) = Instr.indexAt t_ v_ (.int .i64 4) := fun _ _ => by rw [c28]))
         (try (have c28j22 : ∀ (W_ : World) (v0_ v1_ v2_ v3_ v4_ v5_ : Value), (Instr.index 22 (.agg #[v0_, v1_, v2_, v3_, v4_, v5_]) (.int .i64 4)).run Try.prog W_ = .ok v4_ W_ := by intros; kernel_rfl))
         (try (have c28j49 : ∀ (W_ : World) (v0_ v1_ v2_ v3_ v4_ v5_ v6_ v7_ : Value), (Instr.index 49 (.agg #[v0_, v1_, v2_, v3_, v4_, v5_, v6_, v7_]) (.int .i64 4)).run Try.prog W_ = .ok v4_ W_ := by intros; kernel_rfl))
         have c28b0 : (x4_1 == (4 : Int)) = true := beq_iff_eq.mpr c28
         have c28b1 : (x4_1 != (4 : Int)) = false := bne_eq_false_iff_eq.mpr c28
         clear c28
         by_cases c29 : a0_8 = 0
         ·rw [if_pos c29] at H
          have c29b0 : (a0_8 == 0) = true := beq_iff_eq.mpr c29
          have c29b1 : (a0_8 != 0) = false := bne_eq_false_iff_eq.mpr c29
          clear c29
          have H' := Aside0.mk H
          clear H
          have q_ := cells12 BK467.out; have hcz30_0 := q_.c0; have hcz30_1 := q_.c1; have hcz30_2 := q_.c2; have hcz30_3 := q_.c3; have hcz30_4 := q_.c4; have hcz30_5 := q_.c5; have hcz30_6 := q_.c6; have hcz30_7 := q_.c7; have hcz30_8 := q_.c8; have hcz30_9 := q_.c9; have hcz30_10 := q_.c10; have hcz30_11 := q_.c11; have hfz30_0 := q_.f0; have hfz30_1 := q_.f1; have hfz30_2 := q_.f2; have hfz30_3 := q_.f3; have hfz30_4 := q_.f4; have hfz30_5 := q_.f5; have hfz30_6 := q_.f6; have hfz30_7 := q_.f7; have hfz30_8 := q_.f8; have hfz30_9 := q_.f9; have hfz30_10 := q_.f10; have hfz30_11 := q_.f11; clear q_
          go_wp2
          go_roundg k1
          case measure => have := HK1.out; omega
          case rel => exact ⟨(x3_1), (wrap64 (x4_1 + 1)), (by first | rfl | (simp; done) | (simp [*]; done) | (have hz_ := c28z.out; congr 1; unfold wrap64; omega)), H', ⟨by have := HK1.out; omega⟩, ⟨by (with_reducible repeat (first | apply Kd.R_alloc | apply Kd.R_drewN | apply Kd.R_drew)); exact HO_3.out⟩, ⟨by (with_reducible repeat (first | refine blk_drewN ?_ _ | refine blk_drew ?_ | refine blk_alloc ?_ _)); exact BK467.out⟩, ⟨by repeat (first | (with_reducible first | exact HB.out | apply below_alloc | apply pw_below_drewN | apply below_drew1 | refine below_set ?_ GE467.out) | exact HB.out)⟩⟩
         ·rw [if_neg c29] at H
          have c29b0 : (a0_8 == 0) = false := beq_eq_false_iff_ne.mpr c29
          have c29b1 : (a0_8 != 0) = true := bne_iff_ne.mpr c29
          by_cases c31 : x3_1.length < 17592186044416
          ·rw [if_pos c31] at H
           have LMc31 := Aside0.mk c31
           clear c31
           obtain ⟨y480, hy480⟩ : ∃ y_ : List Int, y_ = (x3_1 ++ [a0_8]) := ⟨_, rfl⟩
           replace H : (leveeref07_Names.l0 k1 y480 (wrap64 (x4_1 + 1)) a0_0 a0_1 a0_2 a0_3 a0_4 a0_5 a0_6 a0_7 a0_8 a0_9 a0_10 a0_11) = some r := by first | (rw [hy480]; with_reducible exact H) | (have H2_ := (Option.bind_some _ _).symm.trans H; rw [hy480]; with_reducible exact H2_) | (have H2_ := (Option.bind_some _ _).symm.trans H; with_reducible exact H2_) | with_reducible exact H | (rw [hy480]; exact H) | exact H
           have Ny480 := Aside0.mk hy480
           clear hy480
           have H' := Aside0.mk H
           clear H
           have q_ := cells12 BK467.out; have hcz32_0 := q_.c0; have hcz32_1 := q_.c1; have hcz32_2 := q_.c2; have hcz32_3 := q_.c3; have hcz32_4 := q_.c4; have hcz32_5 := q_.c5; have hcz32_6 := q_.c6; have hcz32_7 := q_.c7; have hcz32_8 := q_.c8; have hcz32_9 := q_.c9; have hcz32_10 := q_.c10; have hcz32_11 := q_.c11; have hfz32_0 := q_.f0; have hfz32_1 := q_.f1; have hfz32_2 := q_.f2; have hfz32_3 := q_.f3; have hfz32_4 := q_.f4; have hfz32_5 := q_.f5; have hfz32_6 := q_.f6; have hfz32_7 := q_.f7; have hfz32_8 := q_.f8; have hfz32_9 := q_.f9; have hfz32_10 := q_.f10; have hfz32_11 := q_.f11; clear q_
           go_wp2_with (first | ((with_reducible refine gate_builtin (b := .append) (xs := #[.tmp 14, .tmp 19]) rfl ?_); at_builtin; refine Kd.R_append (Kd.int .i64) (w0 := w) w.heap.size rfl (.tmp 14) (.tmp 19) 44 3 (.int .i64 0) 8 rfl Try.underlying44 info3 rfl (by decide) (by omega) u3 x3_1 a0_8 [.int .i64 a0_8] (fun _ => True) (fun _ => False) rfl rfl ?aP (fun _ hk => hk.elim) ?aF ?aO ?aB ?aS ?aL ?_; (case aP => exact rfl); (case aB => exact (by repeat (first | (with_reducible first | exact HB.out | apply below_alloc | apply pw_below_drewN | apply below_drew1 | refine below_set ?_ GE467.out) | exact HB.out))); (case aF => exact (fun _ _ => trivial)); (case aO => exact (by (with_reducible repeat (first | apply Kd.R_alloc | apply Kd.R_drewN | apply Kd.R_drew)); exact HO_3.out)); (case aS => exact (below_size (by repeat (first | (with_reducible first | exact HB.out | apply below_alloc | apply pw_below_drewN | apply below_drew1 | refine below_set ?_ GE467.out) | exact HB.out)))); (case aL => have := LMc31.out; omega); intro v481 w33 ho hb hg hat; rw [← Ny480.out] at ho; have n0_ := Aside0.mk (blk_grown (g := gb467) (o := .cells #[.int .i64 a0_0, .int .i64 a0_1, .int .i64 a0_2, .int .i64 a0_3, .int .i64 a0_4, .int .i64 a0_5, .int .i64 a0_6, .int .i64 a0_7, .int .i64 a0_8, .int .i64 a0_9, .int .i64 a0_10, .int .i64 a0_11] 24 (0, 0)) (by (with_reducible repeat (first | refine blk_drewN ?_ _ | refine blk_drew ?_ | refine blk_alloc ?_ _)); exact BK467.out) hg (Kd.R_ne HO_3.out BK467.out (by decide))); have n1_ := Aside0.mk (hb); have n2_ := Aside0.mk (ho); clear BK467; clear HB; clear HO_3; have BK467 := n0_; have HB := n1_; have HO482 := n2_; clear n0_ n1_ n2_; clear ho hb hg hat))
           go_roundg k1
           case measure => have := HK1.out; omega
           case rel => exact ⟨(y480), (wrap64 (x4_1 + 1)), (by first | rfl | (simp; done) | (simp [*]; done) | (have hz_ := c28z.out; congr 1; unfold wrap64; omega)), H', ⟨by have := HK1.out; omega⟩, ⟨by (with_reducible repeat (first | apply Kd.R_alloc | apply Kd.R_drewN | apply Kd.R_drew)); exact HO482.out⟩, ⟨by (with_reducible repeat (first | refine blk_drewN ?_ _ | refine blk_drew ?_ | refine blk_alloc ?_ _)); exact BK467.out⟩, ⟨by repeat (first | (with_reducible first | exact HB.out | apply below_alloc | apply pw_below_drewN | apply below_drew1 | refine below_set ?_ GE467.out) | exact HB.out)⟩⟩
          ·rw [if_neg c31] at H
           exact absurd H (by simp)
        ·rw [if_neg c28] at H
         have c28b0 : (x4_1 == (4 : Int)) = false := beq_eq_false_iff_ne.mpr c28
         have c28b1 : (x4_1 != (4 : Int)) = true := bne_iff_ne.mpr c28
         by_cases c34 : x4_1 = (5 : Int)
         ·rw [if_pos c34] at H
          have c34z := Aside0.mk c34
          (try (have c34i : ∀ (t_ : TypeId) (v_ : Value), Instr.index t_ v_ (.int .i64 x4_1) = Instr.index t_ v_ (.int .i64 5) := fun _ _ => by rw [c34]))
          (try (have c34a : ∀ (t_ : TypeId) (v_ : Value), Instr.indexAt t_ v_ (.int .i64 x4_1) = Instr.indexAt t_ v_ (.int .i64 5) := fun _ _ => by rw [c34]))
          (try (have c34j22 : ∀ (W_ : World) (v0_ v1_ v2_ v3_ v4_ v5_ : Value), (Instr.index 22 (.agg #[v0_, v1_, v2_, v3_, v4_, v5_]) (.int .i64 5)).run Try.prog W_ = .ok v5_ W_ := by intros; kernel_rfl))
          (try (have c34j49 : ∀ (W_ : World) (v0_ v1_ v2_ v3_ v4_ v5_ v6_ v7_ : Value), (Instr.index 49 (.agg #[v0_, v1_, v2_, v3_, v4_, v5_, v6_, v7_]) (.int .i64 5)).run Try.prog W_ = .ok v5_ W_ := by intros; kernel_rfl))
          have c34b0 : (x4_1 == (5 : Int)) = true := beq_iff_eq.mpr c34
          have c34b1 : (x4_1 != (5 : Int)) = false := bne_eq_false_iff_eq.mpr c34
          clear c34
          by_cases c35 : a0_9 = 0
          ·rw [if_pos c35] at H
           have c35b0 : (a0_9 == 0) = true := beq_iff_eq.mpr c35
           have c35b1 : (a0_9 != 0) = false := bne_eq_false_iff_eq.mpr c35
           clear c35
           have H' := Aside0.mk H
           clear H
           have q_ := cells12 BK467.out; have hcz36_0 := q_.c0; have hcz36_1 := q_.c1; have hcz36_2 := q_.c2; have hcz36_3 := q_.c3; have hcz36_4 := q_.c4; have hcz36_5 := q_.c5; have hcz36_6 := q_.c6; have hcz36_7 := q_.c7; have hcz36_8 := q_.c8; have hcz36_9 := q_.c9; have hcz36_10 := q_.c10; have hcz36_11 := q_.c11; have hfz36_0 := q_.f0; have hfz36_1 := q_.f1; have hfz36_2 := q_.f2; have hfz36_3 := q_.f3; have hfz36_4 := q_.f4; have hfz36_5 := q_.f5; have hfz36_6 := q_.f6; have hfz36_7 := q_.f7; have hfz36_8 := q_.f8; have hfz36_9 := q_.f9; have hfz36_10 := q_.f10; have hfz36_11 := q_.f11; clear q_
           go_wp2
           go_roundg k1
           case measure => have := HK1.out; omega
           case rel => exact ⟨(x3_1), (wrap64 (x4_1 + 1)), (by first | rfl | (simp; done) | (simp [*]; done) | (have hz_ := c34z.out; congr 1; unfold wrap64; omega)), H', ⟨by have := HK1.out; omega⟩, ⟨by (with_reducible repeat (first | apply Kd.R_alloc | apply Kd.R_drewN | apply Kd.R_drew)); exact HO_3.out⟩, ⟨by (with_reducible repeat (first | refine blk_drewN ?_ _ | refine blk_drew ?_ | refine blk_alloc ?_ _)); exact BK467.out⟩, ⟨by repeat (first | (with_reducible first | exact HB.out | apply below_alloc | apply pw_below_drewN | apply below_drew1 | refine below_set ?_ GE467.out) | exact HB.out)⟩⟩
          ·rw [if_neg c35] at H
           have c35b0 : (a0_9 == 0) = false := beq_eq_false_iff_ne.mpr c35
           have c35b1 : (a0_9 != 0) = true := bne_iff_ne.mpr c35
           by_cases c37 : x3_1.length < 17592186044416
           ·rw [if_pos c37] at H
            have LMc37 := Aside0.mk c37
            clear c37
            obtain ⟨y483, hy483⟩ : ∃ y_ : List Int, y_ = (x3_1 ++ [a0_9]) := ⟨_, rfl⟩
            replace H : (leveeref07_Names.l0 k1 y483 (wrap64 (x4_1 + 1)) a0_0 a0_1 a0_2 a0_3 a0_4 a0_5 a0_6 a0_7 a0_8 a0_9 a0_10 a0_11) = some r := by first | (rw [hy483]; with_reducible exact H) | (have H2_ := (Option.bind_some _ _).symm.trans H; rw [hy483]; with_reducible exact H2_) | (have H2_ := (Option.bind_some _ _).symm.trans H; with_reducible exact H2_) | with_reducible exact H | (rw [hy483]; exact H) | exact H
            have Ny483 := Aside0.mk hy483
            clear hy483
            have H' := Aside0.mk H
            clear H
            have q_ := cells12 BK467.out; have hcz38_0 := q_.c0; have hcz38_1 := q_.c1; have hcz38_2 := q_.c2; have hcz38_3 := q_.c3; have hcz38_4 := q_.c4; have hcz38_5 := q_.c5; have hcz38_6 := q_.c6; have hcz38_7 := q_.c7; have hcz38_8 := q_.c8; have hcz38_9 := q_.c9; have hcz38_10 := q_.c10; have hcz38_11 := q_.c11; have hfz38_0 := q_.f0; have hfz38_1 := q_.f1; have hfz38_2 := q_.f2; have hfz38_3 := q_.f3; have hfz38_4 := q_.f4; have hfz38_5 := q_.f5; have hfz38_6 := q_.f6; have hfz38_7 := q_.f7; have hfz38_8 := q_.f8; have hfz38_9 := q_.f9; have hfz38_10 := q_.f10; have hfz38_11 := q_.f11; clear q_
            go_wp2_with (first | ((with_reducible refine gate_builtin (b := .append) (xs := #[.tmp 14, .tmp 19]) rfl ?_); at_builtin; refine Kd.R_append (Kd.int .i64) (w0 := w) w.heap.size rfl (.tmp 14) (.tmp 19) 44 3 (.int .i64 0) 8 rfl Try.underlying44 info3 rfl (by decide) (by omega) u3 x3_1 a0_9 [.int .i64 a0_9] (fun _ => True) (fun _ => False) rfl rfl ?aP (fun _ hk => hk.elim) ?aF ?aO ?aB ?aS ?aL ?_; (case aP => exact rfl); (case aB => exact (by repeat (first | (with_reducible first | exact HB.out | apply below_alloc | apply pw_below_drewN | apply below_drew1 | refine below_set ?_ GE467.out) | exact HB.out))); (case aF => exact (fun _ _ => trivial)); (case aO => exact (by (with_reducible repeat (first | apply Kd.R_alloc | apply Kd.R_drewN | apply Kd.R_drew)); exact HO_3.out)); (case aS => exact (below_size (by repeat (first | (with_reducible first | exact HB.out | apply below_alloc | apply pw_below_drewN | apply below_drew1 | refine below_set ?_ GE467.out) | exact HB.out)))); (case aL => have := LMc37.out; omega); intro v484 w39 ho hb hg hat; rw [← Ny483.out] at ho; have n0_ := Aside0.mk (blk_grown (g := gb467) (o := .cells #[.int .i64 a0_0, .int .i64 a0_1, .int .i64 a0_2, .int .i64 a0_3, .int .i64 a0_4, .int .i64 a0_5, .int .i64 a0_6, .int .i64 a0_7, .int .i64 a0_8, .int .i64 a0_9, .int .i64 a0_10, .int .i64 a0_11] 24 (0, 0)) (by (with_reducible repeat (first | refine blk_drewN ?_ _ | refine blk_drew ?_ | refine blk_alloc ?_ _)); exact BK467.out) hg (Kd.R_ne HO_3.out BK467.out (by decide))); have n1_ := Aside0.mk (hb); have n2_ := Aside0.mk (ho); clear BK467; clear HB; clear HO_3; have BK467 := n0_; have HB := n1_; have HO485 := n2_; clear n0_ n1_ n2_; clear ho hb hg hat))
            go_roundg k1
            case measure => have := HK1.out; omega
            case rel => exact ⟨(y483), (wrap64 (x4_1 + 1)), (by first | rfl | (simp; done) | (simp [*]; done) | (have hz_ := c34z.out; congr 1; unfold wrap64; omega)), H', ⟨by have := HK1.out; omega⟩, ⟨by (with_reducible repeat (first | apply Kd.R_alloc | apply Kd.R_drewN | apply Kd.R_drew)); exact HO485.out⟩, ⟨by (with_reducible repeat (first | refine blk_drewN ?_ _ | refine blk_drew ?_ | refine blk_alloc ?_ _)); exact BK467.out⟩, ⟨by repeat (first | (with_reducible first | exact HB.out | apply below_alloc | apply pw_below_drewN | apply below_drew1 | refine below_set ?_ GE467.out) | exact HB.out)⟩⟩
           ·rw [if_neg c37] at H
            exact absurd H (by simp)
         ·rw [if_neg c34] at H
          exact absurd H (by simp)
   ·rw [if_neg c3] at H
    have c3b0 : decide (x4_1 < 6) = false := decide_eq_false c3
    clear c3
    by_cases c40 : a0_10 = 0
    ·rw [if_pos c40] at H
     have c40b0 : (a0_10 == 0) = true := beq_iff_eq.mpr c40
     have c40b1 : (a0_10 != 0) = false := bne_eq_false_iff_eq.mpr c40
     clear c40
     by_cases c41 : a0_11 = 0
     ·rw [if_pos c41] at H
      have c41b0 : (a0_11 == 0) = true := beq_iff_eq.mpr c41
      have c41b1 : (a0_11 != 0) = false := bne_eq_false_iff_eq.mpr c41
      clear c41
      obtain rfl := Option.some.inj H
      have q_ := cells12 BK467.out; have hcz42_0 := q_.c0; have hcz42_1 := q_.c1; have hcz42_2 := q_.c2; have hcz42_3 := q_.c3; have hcz42_4 := q_.c4; have hcz42_5 := q_.c5; have hcz42_6 := q_.c6; have hcz42_7 := q_.c7; have hcz42_8 := q_.c8; have hcz42_9 := q_.c9; have hcz42_10 := q_.c10; have hcz42_11 := q_.c11; have hfz42_0 := q_.f0; have hfz42_1 := q_.f1; have hfz42_2 := q_.f2; have hfz42_3 := q_.f3; have hfz42_4 := q_.f4; have hfz42_5 := q_.f5; have hfz42_6 := q_.f6; have hfz42_7 := q_.f7; have hfz42_8 := q_.f8; have hfz42_9 := q_.f9; have hfz42_10 := q_.f10; have hfz42_11 := q_.f11; clear q_
      go_wp2
      go_ret
      exact ⟨_, by first | rfl | (simp [errW_none, errW_some] <;> rfl) | (simp [*, errW_none, errW_some] <;> rfl), by (with_reducible repeat (first | apply Kd.R_alloc | apply Kd.R_drewN | apply Kd.R_drew)); exact HO_3.out, by repeat (first | (with_reducible first | exact HB.out | apply below_alloc | apply pw_below_drewN | apply below_drew1 | refine below_set ?_ GE467.out) | exact HB.out)⟩
     ·rw [if_neg c41] at H
      have c41b0 : (a0_11 == 0) = false := beq_eq_false_iff_ne.mpr c41
      have c41b1 : (a0_11 != 0) = true := bne_iff_ne.mpr c41
      by_cases c43 : x3_1.length < 17592186044416
      ·rw [if_pos c43] at H
       have LMc43 := Aside0.mk c43
       clear c43
       obtain ⟨y486, hy486⟩ : ∃ y_ : List Int, y_ = (x3_1 ++ [a0_11]) := ⟨_, rfl⟩
       replace H : (some y486) = some r := by first | (rw [hy486]; with_reducible exact H) | (have H2_ := (Option.bind_some _ _).symm.trans H; rw [hy486]; with_reducible exact H2_) | (have H2_ := (Option.bind_some _ _).symm.trans H; with_reducible exact H2_) | with_reducible exact H | (rw [hy486]; exact H) | exact H
       have Ny486 := Aside0.mk hy486
       clear hy486
       obtain rfl := Option.some.inj H
       have q_ := cells12 BK467.out; have hcz44_0 := q_.c0; have hcz44_1 := q_.c1; have hcz44_2 := q_.c2; have hcz44_3 := q_.c3; have hcz44_4 := q_.c4; have hcz44_5 := q_.c5; have hcz44_6 := q_.c6; have hcz44_7 := q_.c7; have hcz44_8 := q_.c8; have hcz44_9 := q_.c9; have hcz44_10 := q_.c10; have hcz44_11 := q_.c11; have hfz44_0 := q_.f0; have hfz44_1 := q_.f1; have hfz44_2 := q_.f2; have hfz44_3 := q_.f3; have hfz44_4 := q_.f4; have hfz44_5 := q_.f5; have hfz44_6 := q_.f6; have hfz44_7 := q_.f7; have hfz44_8 := q_.f8; have hfz44_9 := q_.f9; have hfz44_10 := q_.f10; have hfz44_11 := q_.f11; clear q_
       go_wp2_with (first | ((with_reducible refine gate_builtin (b := .append) (xs := #[.tmp 32, .tmp 35]) rfl ?_); at_builtin; refine Kd.R_append (Kd.int .i64) (w0 := w) w.heap.size rfl (.tmp 32) (.tmp 35) 44 3 (.int .i64 0) 8 rfl Try.underlying44 info3 rfl (by decide) (by omega) u3 x3_1 a0_11 [.int .i64 a0_11] (fun _ => True) (fun _ => False) rfl rfl ?aP (fun _ hk => hk.elim) ?aF ?aO ?aB ?aS ?aL ?_; (case aP => exact rfl); (case aB => exact (by repeat (first | (with_reducible first | exact HB.out | apply below_alloc | apply pw_below_drewN | apply below_drew1 | refine below_set ?_ GE467.out) | exact HB.out))); (case aF => exact (fun _ _ => trivial)); (case aO => exact (by (with_reducible repeat (first | apply Kd.R_alloc | apply Kd.R_drewN | apply Kd.R_drew)); exact HO_3.out)); (case aS => exact (below_size (by repeat (first | (with_reducible first | exact HB.out | apply below_alloc | apply pw_below_drewN | apply below_drew1 | refine below_set ?_ GE467.out) | exact HB.out)))); (case aL => have := LMc43.out; omega); intro v487 w45 ho hb hg hat; rw [← Ny486.out] at ho; have n0_ := Aside0.mk (blk_grown (g := gb467) (o := .cells #[.int .i64 a0_0, .int .i64 a0_1, .int .i64 a0_2, .int .i64 a0_3, .int .i64 a0_4, .int .i64 a0_5, .int .i64 a0_6, .int .i64 a0_7, .int .i64 a0_8, .int .i64 a0_9, .int .i64 a0_10, .int .i64 a0_11] 24 (0, 0)) (by (with_reducible repeat (first | refine blk_drewN ?_ _ | refine blk_drew ?_ | refine blk_alloc ?_ _)); exact BK467.out) hg (Kd.R_ne HO_3.out BK467.out (by decide))); have n1_ := Aside0.mk (hb); have n2_ := Aside0.mk (ho); clear BK467; clear HB; clear HO_3; have BK467 := n0_; have HB := n1_; have HO488 := n2_; clear n0_ n1_ n2_; clear ho hb hg hat))
       go_ret
       exact ⟨_, by first | rfl | (simp [errW_none, errW_some] <;> rfl) | (simp [*, errW_none, errW_some] <;> rfl), by (with_reducible repeat (first | apply Kd.R_alloc | apply Kd.R_drewN | apply Kd.R_drew)); exact HO488.out, by repeat (first | (with_reducible first | exact HB.out | apply below_alloc | apply pw_below_drewN | apply below_drew1 | refine below_set ?_ GE467.out) | exact HB.out)⟩
      ·rw [if_neg c43] at H
       exact absurd H (by simp)
    ·rw [if_neg c40] at H
     have c40b0 : (a0_10 == 0) = false := beq_eq_false_iff_ne.mpr c40
     have c40b1 : (a0_10 != 0) = true := bne_iff_ne.mpr c40
     by_cases c46 : x3_1.length < 17592186044416
     ·rw [if_pos c46] at H
      have LMc46 := Aside0.mk c46
      clear c46
      obtain ⟨y489, hy489⟩ : ∃ y_ : List Int, y_ = (x3_1 ++ [a0_10]) := ⟨_, rfl⟩
      replace H : (if a0_11 = 0 then (some y489) else (if y489.length < 17592186044416 then (some (y489 ++ [a0_11])) else (none))) = some r := by first | (rw [hy489]; with_reducible exact H) | (have H2_ := (Option.bind_some _ _).symm.trans H; rw [hy489]; with_reducible exact H2_) | (have H2_ := (Option.bind_some _ _).symm.trans H; with_reducible exact H2_) | with_reducible exact H | (rw [hy489]; exact H) | exact H
      have Ny489 := Aside0.mk hy489
      clear hy489
      by_cases c47 : a0_11 = 0
      ·rw [if_pos c47] at H
       have c47b0 : (a0_11 == 0) = true := beq_iff_eq.mpr c47
       have c47b1 : (a0_11 != 0) = false := bne_eq_false_iff_eq.mpr c47
       clear c47
       obtain rfl := Option.some.inj H
       have q_ := cells12 BK467.out; have hcz48_0 := q_.c0; have hcz48_1 := q_.c1; have hcz48_2 := q_.c2; have hcz48_3 := q_.c3; have hcz48_4 := q_.c4; have hcz48_5 := q_.c5; have hcz48_6 := q_.c6; have hcz48_7 := q_.c7; have hcz48_8 := q_.c8; have hcz48_9 := q_.c9; have hcz48_10 := q_.c10; have hcz48_11 := q_.c11; have hfz48_0 := q_.f0; have hfz48_1 := q_.f1; have hfz48_2 := q_.f2; have hfz48_3 := q_.f3; have hfz48_4 := q_.f4; have hfz48_5 := q_.f5; have hfz48_6 := q_.f6; have hfz48_7 := q_.f7; have hfz48_8 := q_.f8; have hfz48_9 := q_.f9; have hfz48_10 := q_.f10; have hfz48_11 := q_.f11; clear q_
       go_wp2_with (first | ((with_reducible refine gate_builtin (b := .append) (xs := #[.tmp 24, .tmp 27]) rfl ?_); at_builtin; refine Kd.R_append (Kd.int .i64) (w0 := w) w.heap.size rfl (.tmp 24) (.tmp 27) 44 3 (.int .i64 0) 8 rfl Try.underlying44 info3 rfl (by decide) (by omega) u3 x3_1 a0_10 [.int .i64 a0_10] (fun _ => True) (fun _ => False) rfl rfl ?aP (fun _ hk => hk.elim) ?aF ?aO ?aB ?aS ?aL ?_; (case aP => exact rfl); (case aB => exact (by repeat (first | (with_reducible first | exact HB.out | apply below_alloc | apply pw_below_drewN | apply below_drew1 | refine below_set ?_ GE467.out) | exact HB.out))); (case aF => exact (fun _ _ => trivial)); (case aO => exact (by (with_reducible repeat (first | apply Kd.R_alloc | apply Kd.R_drewN | apply Kd.R_drew)); exact HO_3.out)); (case aS => exact (below_size (by repeat (first | (with_reducible first | exact HB.out | apply below_alloc | apply pw_below_drewN | apply below_drew1 | refine below_set ?_ GE467.out) | exact HB.out)))); (case aL => have := LMc46.out; omega); intro v490 w49 ho hb hg hat; rw [← Ny489.out] at ho; have n0_ := Aside0.mk (blk_grown (g := gb467) (o := .cells #[.int .i64 a0_0, .int .i64 a0_1, .int .i64 a0_2, .int .i64 a0_3, .int .i64 a0_4, .int .i64 a0_5, .int .i64 a0_6, .int .i64 a0_7, .int .i64 a0_8, .int .i64 a0_9, .int .i64 a0_10, .int .i64 a0_11] 24 (0, 0)) (by (with_reducible repeat (first | refine blk_drewN ?_ _ | refine blk_drew ?_ | refine blk_alloc ?_ _)); exact BK467.out) hg (Kd.R_ne HO_3.out BK467.out (by decide))); have n1_ := Aside0.mk (hb); have n2_ := Aside0.mk (ho); clear BK467; clear HB; clear HO_3; have BK467 := n0_; have HB := n1_; have HO491 := n2_; clear n0_ n1_ n2_; clear ho hb hg hat; have q_ := cells12 BK467.out; have hcz50_0 := q_.c0; have hcz50_1 := q_.c1; have hcz50_2 := q_.c2; have hcz50_3 := q_.c3; have hcz50_4 := q_.c4; have hcz50_5 := q_.c5; have hcz50_6 := q_.c6; have hcz50_7 := q_.c7; have hcz50_8 := q_.c8; have hcz50_9 := q_.c9; have hcz50_10 := q_.c10; have hcz50_11 := q_.c11; have hfz50_0 := q_.f0; have hfz50_1 := q_.f1; have hfz50_2 := q_.f2; have hfz50_3 := q_.f3; have hfz50_4 := q_.f4; have hfz50_5 := q_.f5; have hfz50_6 := q_.f6; have hfz50_7 := q_.f7; have hfz50_8 := q_.f8; have hfz50_9 := q_.f9; have hfz50_10 := q_.f10; have hfz50_11 := q_.f11; clear q_))
       go_ret
       exact ⟨_, by first | rfl | (simp [errW_none, errW_some] <;> rfl) | (simp [*, errW_none, errW_some] <;> rfl), by (with_reducible repeat (first | apply Kd.R_alloc | apply Kd.R_drewN | apply Kd.R_drew)); exact HO491.out, by repeat (first | (with_reducible first | exact HB.out | apply below_alloc | apply pw_below_drewN | apply below_drew1 | refine below_set ?_ GE467.out) | exact HB.out)⟩
      ·rw [if_neg c47] at H
       have c47b0 : (a0_11 == 0) = false := beq_eq_false_iff_ne.mpr c47
       have c47b1 : (a0_11 != 0) = true := bne_iff_ne.mpr c47
       by_cases c51 : y489.length < 17592186044416
       ·rw [if_pos c51] at H
        have LMc51 := Aside0.mk c51
        clear c51
        obtain ⟨y492, hy492⟩ : ∃ y_ : List Int, y_ = (y489 ++ [a0_11]) := ⟨_, rfl⟩
        replace H : (some y492) = some r := by first | (rw [hy492]; with_reducible exact H) | (have H2_ := (Option.bind_some _ _).symm.trans H; rw [hy492]; with_reducible exact H2_) | (have H2_ := (Option.bind_some _ _).symm.trans H; with_reducible exact H2_) | with_reducible exact H | (rw [hy492]; exact H) | exact H
        have Ny492 := Aside0.mk hy492
        clear hy492
        obtain rfl := Option.some.inj H
        have q_ := cells12 BK467.out; have hcz52_0 := q_.c0; have hcz52_1 := q_.c1; have hcz52_2 := q_.c2; have hcz52_3 := q_.c3; have hcz52_4 := q_.c4; have hcz52_5 := q_.c5; have hcz52_6 := q_.c6; have hcz52_7 := q_.c7; have hcz52_8 := q_.c8; have hcz52_9 := q_.c9; have hcz52_10 := q_.c10; have hcz52_11 := q_.c11; have hfz52_0 := q_.f0; have hfz52_1 := q_.f1; have hfz52_2 := q_.f2; have hfz52_3 := q_.f3; have hfz52_4 := q_.f4; have hfz52_5 := q_.f5; have hfz52_6 := q_.f6; have hfz52_7 := q_.f7; have hfz52_8 := q_.f8; have hfz52_9 := q_.f9; have hfz52_10 := q_.f10; have hfz52_11 := q_.f11; clear q_
        go_wp2_with (first | ((with_reducible refine gate_builtin (b := .append) (xs := #[.tmp 24, .tmp 27]) rfl ?_); at_builtin; refine Kd.R_append (Kd.int .i64) (w0 := w) w.heap.size rfl (.tmp 24) (.tmp 27) 44 3 (.int .i64 0) 8 rfl Try.underlying44 info3 rfl (by decide) (by omega) u3 x3_1 a0_10 [.int .i64 a0_10] (fun _ => True) (fun _ => False) rfl rfl ?aP (fun _ hk => hk.elim) ?aF ?aO ?aB ?aS ?aL ?_; (case aP => exact rfl); (case aB => exact (by repeat (first | (with_reducible first | exact HB.out | apply below_alloc | apply pw_below_drewN | apply below_drew1 | refine below_set ?_ GE467.out) | exact HB.out))); (case aF => exact (fun _ _ => trivial)); (case aO => exact (by (with_reducible repeat (first | apply Kd.R_alloc | apply Kd.R_drewN | apply Kd.R_drew)); exact HO_3.out)); (case aS => exact (below_size (by repeat (first | (with_reducible first | exact HB.out | apply below_alloc | apply pw_below_drewN | apply below_drew1 | refine below_set ?_ GE467.out) | exact HB.out)))); (case aL => have := LMc46.out; omega); intro v490 w53 ho hb hg hat; rw [← Ny489.out] at ho; have n0_ := Aside0.mk (blk_grown (g := gb467) (o := .cells #[.int .i64 a0_0, .int .i64 a0_1, .int .i64 a0_2, .int .i64 a0_3, .int .i64 a0_4, .int .i64 a0_5, .int .i64 a0_6, .int .i64 a0_7, .int .i64 a0_8, .int .i64 a0_9, .int .i64 a0_10, .int .i64 a0_11] 24 (0, 0)) (by (with_reducible repeat (first | refine blk_drewN ?_ _ | refine blk_drew ?_ | refine blk_alloc ?_ _)); exact BK467.out) hg (Kd.R_ne HO_3.out BK467.out (by decide))); have n1_ := Aside0.mk (hb); have n2_ := Aside0.mk (ho); clear BK467; clear HB; clear HO_3; have BK467 := n0_; have HB := n1_; have HO491 := n2_; clear n0_ n1_ n2_; clear ho hb hg hat; have q_ := cells12 BK467.out; have hcz54_0 := q_.c0; have hcz54_1 := q_.c1; have hcz54_2 := q_.c2; have hcz54_3 := q_.c3; have hcz54_4 := q_.c4; have hcz54_5 := q_.c5; have hcz54_6 := q_.c6; have hcz54_7 := q_.c7; have hcz54_8 := q_.c8; have hcz54_9 := q_.c9; have hcz54_10 := q_.c10; have hcz54_11 := q_.c11; have hfz54_0 := q_.f0; have hfz54_1 := q_.f1; have hfz54_2 := q_.f2; have hfz54_3 := q_.f3; have hfz54_4 := q_.f4; have hfz54_5 := q_.f5; have hfz54_6 := q_.f6; have hfz54_7 := q_.f7; have hfz54_8 := q_.f8; have hfz54_9 := q_.f9; have hfz54_10 := q_.f10; have hfz54_11 := q_.f11; clear q_) | ((with_reducible refine gate_builtin (b := .append) (xs := #[.tmp 32, .tmp 35]) rfl ?_); at_builtin; refine Kd.R_append (Kd.int .i64) (w0 := w) w.heap.size rfl (.tmp 32) (.tmp 35) 44 3 (.int .i64 0) 8 rfl Try.underlying44 info3 rfl (by decide) (by omega) v490 y489 a0_11 [.int .i64 a0_11] (fun _ => True) (fun _ => False) rfl rfl ?aP (fun _ hk => hk.elim) ?aF ?aO ?aB ?aS ?aL ?_; (case aP => exact rfl); (case aB => exact (by repeat (first | (with_reducible first | exact HB.out | apply below_alloc | apply pw_below_drewN | apply below_drew1 | refine below_set ?_ GE467.out) | exact HB.out))); (case aF => exact (fun _ _ => trivial)); (case aO => exact (by (with_reducible repeat (first | apply Kd.R_alloc | apply Kd.R_drewN | apply Kd.R_drew)); exact HO491.out)); (case aS => exact (below_size (by repeat (first | (with_reducible first | exact HB.out | apply below_alloc | apply pw_below_drewN | apply below_drew1 | refine below_set ?_ GE467.out) | exact HB.out)))); (case aL => have := LMc51.out; omega); intro v493 w55 ho hb hg hat; rw [← Ny492.out] at ho; have n0_ := Aside0.mk (blk_grown (g := gb467) (o := .cells #[.int .i64 a0_0, .int .i64 a0_1, .int .i64 a0_2, .int .i64 a0_3, .int .i64 a0_4, .int .i64 a0_5, .int .i64 a0_6, .int .i64 a0_7, .int .i64 a0_8, .int .i64 a0_9, .int .i64 a0_10, .int .i64 a0_11] 24 (0, 0)) (by (with_reducible repeat (first | refine blk_drewN ?_ _ | refine blk_drew ?_ | refine blk_alloc ?_ _)); exact BK467.out) hg (Kd.R_ne HO491.out BK467.out (by decide))); have n1_ := Aside0.mk (hb); have n2_ := Aside0.mk (ho); clear BK467; clear HB; clear HO491; have BK467 := n0_; have HB := n1_; have HO494 := n2_; clear n0_ n1_ n2_; clear ho hb hg hat))
        go_ret
        exact ⟨_, by first | rfl | (simp [errW_none, errW_some] <;> rfl) | (simp [*, errW_none, errW_some] <;> rfl), by (with_reducible repeat (first | apply Kd.R_alloc | apply Kd.R_drewN | apply Kd.R_drew)); exact HO494.out, by repeat (first | (with_reducible first | exact HB.out | apply below_alloc | apply pw_below_drewN | apply below_drew1 | refine below_set ?_ GE467.out) | exact HB.out)⟩
       ·rw [if_neg c51] at H
        exact absurd H (by simp)
     ·rw [if_neg c46] at H
      exact absurd H (by simp)

end Go.Proofs.Ythcndfnmgggblaa.P
