-- PRINTED by print.py (a twelfth state) out of the translation. Not trusted: Lean checks it.
import Derived.Test.YthcndfnmgggblaaPx0
import Derived.Test.YthcndfnmgggblaaPx8
import Derived.Test.YthcndfnmgggblaaHand
import Derived.Test.YthcndfnmgggblaaHandInode
import Derived.Test.YthcndfnmgggblaaCells
namespace Go.Proofs.Ythcndfnmgggblaa.P
open Go.RowKit Go.Proofs.YthcndfnmgggblaaW.PrintWords Go.Proofs.YthcndfnmgggblaaW.PrintLast Go.Proofs.YthcndfnmgggblaaW.PrintMore
attribute [local go_sem] max2_int min2_int max_two min_two max_three min_three max_four min_four   -- for this text's walks alone
set_option linter.unusedVariables false
set_option linter.unusedSimpArgs false

-- leveeref01_Kept: by hand

/-! ### inode_Blocks: function 20 -/
def inode_Blocks.f (a0_0 : Int) (a0_1 : Int) (a0_2 : Int) (a0_3 : Int) (a0_4 : Int) (a0_5 : Int) (a0_6 : Int) (a0_7 : Int) (a0_8 : Int) (a0_9 : Int) (a0_10 : Int) (a0_11 : Int) : Option (Int) := if ((mx a0_2 0) % 256) > 0 then (some (wrap64 ((wrap64 ((mx a0_2 0) / 256)) + 1))) else (some (wrap64 ((mx a0_2 0) / 256)))
set_option maxHeartbeats 8000000 in
set_option maxRecDepth 100000 in
theorem inode_Blocks.calls (a0_0 : Int) (a0_1 : Int) (a0_2 : Int) (a0_3 : Int) (a0_4 : Int) (a0_5 : Int) (a0_6 : Int) (a0_7 : Int) (a0_8 : Int) (a0_9 : Int) (a0_10 : Int) (a0_11 : Int) (r : Int) (w : World) (h : inode_Blocks.f a0_0 a0_1 a0_2 a0_3 a0_4 a0_5 a0_6 a0_7 a0_8 a0_9 a0_10 a0_11 = some r) :
  Calls Try.prog 20 #[.agg #[.int .i64 a0_0, .int .i64 a0_1, .int .i64 a0_2, .int .i64 a0_3, .int .i64 a0_4, .int .i64 a0_5, .int .i64 a0_6, .int .i64 a0_7, .int .i64 a0_8, .int .i64 a0_9, .int .i64 a0_10, .int .i64 a0_11]] w fun e w' => e = .returned (.int .i64 r) ∧ Below w.heap.size w w' := by
 have hu24 := Try.underlying24
 have HB := Aside0.mk (Below.refl w.heap.size w)
 have H : (if ((mx a0_2 0) % 256) > 0 then (some (wrap64 ((wrap64 ((mx a0_2 0) / 256)) + 1))) else (some (wrap64 ((mx a0_2 0) / 256)))) = some r := h
 clear h
 obtain ⟨ji2, hji2⟩ : ∃ j_ : Int, (mx a0_2 0) = j_ := ⟨_, rfl⟩
 replace H : (if ((ji2) % 256) > 0 then (some (wrap64 ((wrap64 ((ji2) / 256)) + 1))) else (some (wrap64 ((ji2) / 256)))) = some r := by first | (rw [hji2] at H; exact H) | (simp only [hji2] at H ⊢; exact H)
 (try (have hji2l : 0 ≤ ji2 := by (rw [← hji2]; unfold mx; (repeat' split) <;> omega)))
 (try (have hji2m : 0 ≤ ji2 := by omega))
 (try (have hji2q : ∀ c_ : Int, Int.tdiv ji2 c_ = ji2 / c_ := fun c_ => Int.tdiv_eq_ediv_of_nonneg hji2m))
 have hji2_ : (if a0_2 < 0 then 0 else a0_2) = ji2 := hji2
 by_cases c3 : ((ji2) % 256) > 0
 ·rw [if_pos c3] at H
  have c3b0 : decide (0 < ((ji2) % 256)) = true := decide_eq_true c3
  clear c3
  obtain rfl := Option.some.inj H
  go_enter Try.func20, Try.ntmps20
  go_wp2_with (first | ((with_reducible refine gate_dst (N := 1) rfl ?_); refine box_event ?hg (N := 1) ?hd (cs := #[.int .i64 a0_0, .int .i64 a0_1, .int .i64 a0_2, .int .i64 a0_3, .int .i64 a0_4, .int .i64 a0_5, .int .i64 a0_6, .int .i64 a0_7, .int .i64 a0_8, .int .i64 a0_9, .int .i64 a0_10, .int .i64 a0_11]) (t := 24) ?hr ?_; (case hd => rfl); (case hg => rfl); (case hr => first | (go_simp; done) | (go_simp; rfl)); intro gb220 hg w4 hbox hb; have n0_ := Aside0.mk (below_step (by repeat (first | (with_reducible first | exact HB.out | apply below_alloc | apply pw_below_drewN | apply below_drew1) | exact HB.out)) hb); have n1_ := Aside0.mk (hbox); have n2_ := Aside0.mk ((by rw [hg]; exact (below_size (by repeat (first | (with_reducible first | exact HB.out | apply below_alloc | apply pw_below_drewN | apply below_drew1) | exact HB.out))) : w.heap.size ≤ gb220)); have n3_ := Aside0.mk ((by rw [hg]; exact (below_size (by repeat (first | (with_reducible first | exact HB.out | apply below_alloc | apply pw_below_drewN | apply below_drew1) | exact HB.out))) : w.heap.size ≤ gb220)); clear HB; have HB := n0_; have BK220 := n1_; have GW220 := n2_; have GE220 := n3_; clear n0_ n1_ n2_ n3_; clear hb hbox hg; have q_ := cells12 BK220.out; have hcz5_0 := q_.c0; have hcz5_1 := q_.c1; have hcz5_2 := q_.c2; have hcz5_3 := q_.c3; have hcz5_4 := q_.c4; have hcz5_5 := q_.c5; have hcz5_6 := q_.c6; have hcz5_7 := q_.c7; have hcz5_8 := q_.c8; have hcz5_9 := q_.c9; have hcz5_10 := q_.c10; have hcz5_11 := q_.c11; have hfz5_0 := q_.f0; have hfz5_1 := q_.f1; have hfz5_2 := q_.f2; have hfz5_3 := q_.f3; have hfz5_4 := q_.f4; have hfz5_5 := q_.f5; have hfz5_6 := q_.f6; have hfz5_7 := q_.f7; have hfz5_8 := q_.f8; have hfz5_9 := q_.f9; have hfz5_10 := q_.f10; have hfz5_11 := q_.f11; clear q_))
  go_ret
  exact ⟨by first | rfl | (simp [errW_none, errW_some] <;> rfl) | (simp only [← hji2]; first | rfl | (simp [errW_none, errW_some] <;> rfl)) | (simp [*, errW_none, errW_some] <;> rfl), by repeat (first | (with_reducible first | exact HB.out | apply below_alloc | apply pw_below_drewN | apply below_drew1 | refine below_set ?_ GE220.out) | exact HB.out)⟩
 ·rw [if_neg c3] at H
  have c3b0 : decide (0 < ((ji2) % 256)) = false := decide_eq_false c3
  clear c3
  obtain rfl := Option.some.inj H
  go_enter Try.func20, Try.ntmps20
  go_wp2_with (first | ((with_reducible refine gate_dst (N := 1) rfl ?_); refine box_event ?hg (N := 1) ?hd (cs := #[.int .i64 a0_0, .int .i64 a0_1, .int .i64 a0_2, .int .i64 a0_3, .int .i64 a0_4, .int .i64 a0_5, .int .i64 a0_6, .int .i64 a0_7, .int .i64 a0_8, .int .i64 a0_9, .int .i64 a0_10, .int .i64 a0_11]) (t := 24) ?hr ?_; (case hd => rfl); (case hg => rfl); (case hr => first | (go_simp; done) | (go_simp; rfl)); intro gb220 hg w6 hbox hb; have n0_ := Aside0.mk (below_step (by repeat (first | (with_reducible first | exact HB.out | apply below_alloc | apply pw_below_drewN | apply below_drew1) | exact HB.out)) hb); have n1_ := Aside0.mk (hbox); have n2_ := Aside0.mk ((by rw [hg]; exact (below_size (by repeat (first | (with_reducible first | exact HB.out | apply below_alloc | apply pw_below_drewN | apply below_drew1) | exact HB.out))) : w.heap.size ≤ gb220)); have n3_ := Aside0.mk ((by rw [hg]; exact (below_size (by repeat (first | (with_reducible first | exact HB.out | apply below_alloc | apply pw_below_drewN | apply below_drew1) | exact HB.out))) : w.heap.size ≤ gb220)); clear HB; have HB := n0_; have BK220 := n1_; have GW220 := n2_; have GE220 := n3_; clear n0_ n1_ n2_ n3_; clear hb hbox hg; have q_ := cells12 BK220.out; have hcz7_0 := q_.c0; have hcz7_1 := q_.c1; have hcz7_2 := q_.c2; have hcz7_3 := q_.c3; have hcz7_4 := q_.c4; have hcz7_5 := q_.c5; have hcz7_6 := q_.c6; have hcz7_7 := q_.c7; have hcz7_8 := q_.c8; have hcz7_9 := q_.c9; have hcz7_10 := q_.c10; have hcz7_11 := q_.c11; have hfz7_0 := q_.f0; have hfz7_1 := q_.f1; have hfz7_2 := q_.f2; have hfz7_3 := q_.f3; have hfz7_4 := q_.f4; have hfz7_5 := q_.f5; have hfz7_6 := q_.f6; have hfz7_7 := q_.f7; have hfz7_8 := q_.f8; have hfz7_9 := q_.f9; have hfz7_10 := q_.f10; have hfz7_11 := q_.f11; clear q_))
  go_ret
  exact ⟨by first | rfl | (simp [errW_none, errW_some] <;> rfl) | (simp only [← hji2]; first | rfl | (simp [errW_none, errW_some] <;> rfl)) | (simp [*, errW_none, errW_some] <;> rfl), by repeat (first | (with_reducible first | exact HB.out | apply below_alloc | apply pw_below_drewN | apply below_drew1 | refine below_set ?_ GE220.out) | exact HB.out)⟩

/-! ### leveeref01_Ints: function 22 -/
def leveeref01_Ints.l0 : Nat → List Int → List Int → Int → Option (Bool)
 | 0, _, _, _ => none
 | k + 1, x0, x1, x5 => if x5 < (x0.length : Int) then (if 0 ≤ x5 then (if x5 < (x1.length : Int) then (if (rd x0 x5) = (rd x1 x5) then (leveeref01_Ints.l0 k x0 x1 (wrap64 (x5 + 1))) else (some false)) else (none)) else (none)) else (some true)
def leveeref01_Ints.f (k : Nat) (l0 : List Int) (l1 : List Int) : Option (Bool) := if (l0.length : Int) = (l1.length : Int) then (leveeref01_Ints.l0 k l0 l1 0) else (some false)
theorem leveeref01_Ints.mono_l : ∀ k, (∀ y0 y1 y2, LeO (leveeref01_Ints.l0 k y0 y1 y2) (leveeref01_Ints.l0 (k + 1) y0 y1 y2))
 | 0 => fun _ _ _ r h => by simp [leveeref01_Ints.l0] at h
 | k + 1 => by
  have ih0 := leveeref01_Ints.mono_l k
  ·intro y0 y1 y2
   unfold leveeref01_Ints.l0
   repeat' first
   | (with_reducible exact ih0 _ _ _)
   | (with_reducible exact LeO.refl _)
   | (with_reducible exact LeO.none _)
   | (with_reducible refine LeO.ite ?_ ?_)
   | (with_reducible refine LeO.bind ?_ (fun _ => ?_))
   | exact ih0 _ _ _
   | exact LeO.none _
   | refine LeO.ite ?_ ?_
   | refine LeO.bind ?_ (fun _ => ?_)
theorem leveeref01_Ints.mono : ∀ a0 a1 k, LeO (leveeref01_Ints.f k a0 a1) (leveeref01_Ints.f (k + 1) a0 a1) := by
 intro a0 a1 k
 have ih0 := leveeref01_Ints.mono_l k
 unfold leveeref01_Ints.f
 repeat' first
   | (with_reducible exact ih0 _ _ _)
   | (with_reducible exact LeO.refl _)
   | (with_reducible exact LeO.none _)
   | (with_reducible refine LeO.ite ?_ ?_)
   | (with_reducible refine LeO.bind ?_ (fun _ => ?_))
   | exact ih0 _ _ _
   | exact LeO.none _
   | refine LeO.ite ?_ ?_
   | refine LeO.bind ?_ (fun _ => ?_)
set_option maxHeartbeats 8000000 in
set_option maxRecDepth 100000 in
theorem leveeref01_Ints.calls (k : Nat) (A0 : Option Addr) (c0 : Nat) (l0 : List Int) (A1 : Option Addr) (c1 : Nat) (l1 : List Int) (r : Bool) (w : World) (hr0 : Kd.C (Kd.int .i64) w A0 l0.length l0) (hc0 : l0.length ≤ c0) (hr1 : Kd.C (Kd.int .i64) w A1 l1.length l1) (hc1 : l1.length ≤ c1) (h : leveeref01_Ints.f k l0 l1 = some r) :
  Calls Try.prog 22 #[.slice A0 l0.length c0, .slice A1 l1.length c1] w fun e w' => e = .returned (.bool r) ∧ Drawn0 w w' := by
 have HR0 := Aside0.mk hr0
 have HC0 := Aside0.mk hc0
 clear hr0 hc0
 have HR1 := Aside0.mk hr1
 have HC1 := Aside0.mk hc1
 clear hr1 hc1
 have H : (if (l0.length : Int) = (l1.length : Int) then (leveeref01_Ints.l0 k l0 l1 0) else (some false)) = some r := h
 clear h
 by_cases c3 : (l0.length : Int) = (l1.length : Int)
 ·rw [if_pos c3] at H
  have c3b0 : ((l0.length : Int) == (l1.length : Int)) = true := beq_iff_eq.mpr c3
  have c3b1 : ((l0.length : Int) != (l1.length : Int)) = false := bne_eq_false_iff_eq.mpr c3
  have c3b2 : (l0.length == l1.length) = true := by first | simpa using c3 | (simp at c3 ⊢; omega)
  clear c3
  have H' := Aside0.mk H
  clear H
  go_enter Try.func22, Try.ntmps22
  go_wp2
  repeat (go_quiet (fail); try go_wp2)
  go_loopg [5] k (fun kq v5 w' => ∃ (x5_1 : Int), v5 = .int .i64 x5_1 ∧ Aside0 (leveeref01_Ints.l0 kq l0 l1 x5_1 = some r) ∧ Aside0 (kq ≤ k) ∧ Drawn0 w w')
  case atStart => exact ⟨(0), (by first | rfl | (simp; done) | (simp [*]; done)), H', ⟨Nat.le_refl _⟩, by repeat (first | exact Drawn0.refl _ | apply Drawn0.step)⟩
  case round =>
   clear H'
   try clear c1
   try clear c2
   try clear p2
   try clear c3
   try clear c3b0
   try clear c3b1
   try clear c3b2
   obtain ⟨x5_1, rfl, HA, HK1, ⟨m1, rfl⟩⟩ := hrel
   cases gk with
   | zero => exact absurd HA.out (by simp [leveeref01_Ints.l0])
   | succ k1 =>
    have H := HA.out
    clear HA
    simp only [leveeref01_Ints.l0] at H
    by_cases c4 : x5_1 < (l0.length : Int)
    ·rw [if_pos c4] at H
     have c4b0 : decide (x5_1 < (l0.length : Int)) = true := decide_eq_true c4
     clear c4
     by_cases c5 : 0 ≤ x5_1
     ·rw [if_pos c5] at H
      have c5b0 : decide (0 ≤ x5_1) = true := decide_eq_true c5
      clear c5
      by_cases c6 : x5_1 < (l1.length : Int)
      ·rw [if_pos c6] at H
       have c6b0 : decide (x5_1 < (l1.length : Int)) = true := decide_eq_true c6
       clear c6
       by_cases c7 : (rd l0 x5_1) = (rd l1 x5_1)
       ·rw [if_pos c7] at H
        have c7b0 : ((rd l0 x5_1) == (rd l1 x5_1)) = true := beq_iff_eq.mpr c7
        have c7b1 : ((rd l0 x5_1) != (rd l1 x5_1)) = false := bne_eq_false_iff_eq.mpr c7
        clear c7
        have H' := Aside0.mk H
        clear H
        have p221 : 0 ≤ (x5_1 : Int) := of_decide_eq_true (by first | (with_reducible assumption) | assumption)
        have q221 : x5_1 < (l0.length : Int) := of_decide_eq_true (by first | (with_reducible assumption) | assumption)
        obtain ⟨ad221, e221, hx221_0⟩ := Kd.at_int HR0.out x5_1 p221 q221
        cases e221
        replace p221 := eq_true p221
        replace q221 := eq_true q221
        have p222 : 0 ≤ (x5_1 : Int) := of_decide_eq_true (by first | (with_reducible assumption) | assumption)
        have q222 : x5_1 < (l1.length : Int) := of_decide_eq_true (by first | (with_reducible assumption) | assumption)
        obtain ⟨ad222, e222, hx222_0⟩ := Kd.at_int HR1.out x5_1 p222 q222
        cases e222
        replace p222 := eq_true p222
        replace q222 := eq_true q222
        go_wp2
        repeat (go_quiet (fail); try go_wp2)
        go_roundg k1
        case measure => have := HK1.out; omega
        case rel => exact ⟨(wrap64 (x5_1 + 1)), (by first | rfl | (simp; done) | (simp [*]; done)), H', ⟨by have := HK1.out; omega⟩, by repeat (first | exact Drawn0.refl _ | apply Drawn0.step)⟩
       ·rw [if_neg c7] at H
        have c7b0 : ((rd l0 x5_1) == (rd l1 x5_1)) = false := beq_eq_false_iff_ne.mpr c7
        have c7b1 : ((rd l0 x5_1) != (rd l1 x5_1)) = true := bne_iff_ne.mpr c7
        obtain rfl := Option.some.inj H
        have p221 : 0 ≤ (x5_1 : Int) := of_decide_eq_true (by first | (with_reducible assumption) | assumption)
        have q221 : x5_1 < (l0.length : Int) := of_decide_eq_true (by first | (with_reducible assumption) | assumption)
        obtain ⟨ad221, e221, hx221_0⟩ := Kd.at_int HR0.out x5_1 p221 q221
        cases e221
        replace p221 := eq_true p221
        replace q221 := eq_true q221
        have p222 : 0 ≤ (x5_1 : Int) := of_decide_eq_true (by first | (with_reducible assumption) | assumption)
        have q222 : x5_1 < (l1.length : Int) := of_decide_eq_true (by first | (with_reducible assumption) | assumption)
        obtain ⟨ad222, e222, hx222_0⟩ := Kd.at_int HR1.out x5_1 p222 q222
        cases e222
        replace p222 := eq_true p222
        replace q222 := eq_true q222
        go_wp2
        repeat (go_quiet (fail); try go_wp2)
        go_ret
        exact ⟨by first | rfl | (simp; done) | (simp [*]; done), by repeat (first | exact Drawn0.refl _ | apply Drawn0.step)⟩
      ·rw [if_neg c6] at H
       exact absurd H (by simp)
     ·rw [if_neg c5] at H
      exact absurd H (by simp)
    ·rw [if_neg c4] at H
     have c4b0 : decide (x5_1 < (l0.length : Int)) = false := decide_eq_false c4
     clear c4
     obtain rfl := Option.some.inj H
     go_wp2
     repeat (go_quiet (fail); try go_wp2)
     go_ret
     exact ⟨by first | rfl | (simp; done) | (simp [*]; done), by repeat (first | exact Drawn0.refl _ | apply Drawn0.step)⟩
 ·rw [if_neg c3] at H
  have c3b0 : ((l0.length : Int) == (l1.length : Int)) = false := beq_eq_false_iff_ne.mpr c3
  have c3b1 : ((l0.length : Int) != (l1.length : Int)) = true := bne_iff_ne.mpr c3
  have c3b2 : (l0.length == l1.length) = false := by first | simpa using c3 | (simp at c3 ⊢; omega)
  obtain rfl := Option.some.inj H
  go_enter Try.func22, Try.ntmps22
  go_wp2
  repeat (go_quiet (fail); try go_wp2)
  go_ret
  exact ⟨by first | rfl | (simp; done) | (simp [*]; done), by repeat (first | exact Drawn0.refl _ | apply Drawn0.step)⟩

/-! ### inode_Names: function 23 -/
def inode_Names.l0 : Nat → List Int → Int → Int → Int → Int → Int → Int → Int → Int → Int → Option (List Int)
 | 0, _, _, _, _, _, _, _, _, _, _ => none
 | k + 1, x3, x8, x700008000, x700008001, x700008002, x700008003, x700008004, x700008005, x700008006, x700008007 => if x8 < 8 then (if x8 = (0 : Int) then (if x700008000 = 0 then (inode_Names.l0 k x3 (wrap64 (x8 + 1)) x700008000 x700008001 x700008002 x700008003 x700008004 x700008005 x700008006 x700008007) else (if x3.length < 17592186044416 then (inode_Names.l0 k (x3 ++ [x700008000]) (wrap64 (x8 + 1)) x700008000 x700008001 x700008002 x700008003 x700008004 x700008005 x700008006 x700008007) else (none))) else (if x8 = (1 : Int) then (if x700008001 = 0 then (inode_Names.l0 k x3 (wrap64 (x8 + 1)) x700008000 x700008001 x700008002 x700008003 x700008004 x700008005 x700008006 x700008007) else (if x3.length < 17592186044416 then (inode_Names.l0 k (x3 ++ [x700008001]) (wrap64 (x8 + 1)) x700008000 x700008001 x700008002 x700008003 x700008004 x700008005 x700008006 x700008007) else (none))) else (if x8 = (2 : Int) then (if x700008002 = 0 then (inode_Names.l0 k x3 (wrap64 (x8 + 1)) x700008000 x700008001 x700008002 x700008003 x700008004 x700008005 x700008006 x700008007) else (if x3.length < 17592186044416 then (inode_Names.l0 k (x3 ++ [x700008002]) (wrap64 (x8 + 1)) x700008000 x700008001 x700008002 x700008003 x700008004 x700008005 x700008006 x700008007) else (none))) else (if x8 = (3 : Int) then (if x700008003 = 0 then (inode_Names.l0 k x3 (wrap64 (x8 + 1)) x700008000 x700008001 x700008002 x700008003 x700008004 x700008005 x700008006 x700008007) else (if x3.length < 17592186044416 then (inode_Names.l0 k (x3 ++ [x700008003]) (wrap64 (x8 + 1)) x700008000 x700008001 x700008002 x700008003 x700008004 x700008005 x700008006 x700008007) else (none))) else (if x8 = (4 : Int) then (if x700008004 = 0 then (inode_Names.l0 k x3 (wrap64 (x8 + 1)) x700008000 x700008001 x700008002 x700008003 x700008004 x700008005 x700008006 x700008007) else (if x3.length < 17592186044416 then (inode_Names.l0 k (x3 ++ [x700008004]) (wrap64 (x8 + 1)) x700008000 x700008001 x700008002 x700008003 x700008004 x700008005 x700008006 x700008007) else (none))) else (if x8 = (5 : Int) then (if x700008005 = 0 then (inode_Names.l0 k x3 (wrap64 (x8 + 1)) x700008000 x700008001 x700008002 x700008003 x700008004 x700008005 x700008006 x700008007) else (if x3.length < 17592186044416 then (inode_Names.l0 k (x3 ++ [x700008005]) (wrap64 (x8 + 1)) x700008000 x700008001 x700008002 x700008003 x700008004 x700008005 x700008006 x700008007) else (none))) else (if x8 = (6 : Int) then (if x700008006 = 0 then (inode_Names.l0 k x3 (wrap64 (x8 + 1)) x700008000 x700008001 x700008002 x700008003 x700008004 x700008005 x700008006 x700008007) else (if x3.length < 17592186044416 then (inode_Names.l0 k (x3 ++ [x700008006]) (wrap64 (x8 + 1)) x700008000 x700008001 x700008002 x700008003 x700008004 x700008005 x700008006 x700008007) else (none))) else (if x8 = (7 : Int) then (if x700008007 = 0 then (inode_Names.l0 k x3 (wrap64 (x8 + 1)) x700008000 x700008001 x700008002 x700008003 x700008004 x700008005 x700008006 x700008007) else (if x3.length < 17592186044416 then (inode_Names.l0 k (x3 ++ [x700008007]) (wrap64 (x8 + 1)) x700008000 x700008001 x700008002 x700008003 x700008004 x700008005 x700008006 x700008007) else (none))) else (none))))))))) else (some x3)
def inode_Names.f (k : Nat) (a0_0 : Int) (a0_1 : Int) (a0_2 : Int) (a0_3 : Int) (a0_4 : Int) (a0_5 : Int) (a0_6 : Int) (a0_7 : Int) (a0_8 : Int) (a0_9 : Int) (a0_10 : Int) (a0_11 : Int) : Option (List Int) := (inode_all.f a0_0 a0_1 a0_2 a0_3 a0_4 a0_5 a0_6 a0_7 a0_8 a0_9 a0_10 a0_11).bind fun bt224 => (inode_Names.l0 k ([] : List Int) 0 bt224.1 bt224.2.1 bt224.2.2.1 bt224.2.2.2.1 bt224.2.2.2.2.1 bt224.2.2.2.2.2.1 bt224.2.2.2.2.2.2.1 bt224.2.2.2.2.2.2.2)
theorem inode_Names.mono_l : ∀ k, (∀ y0 y1 y2 y3 y4 y5 y6 y7 y8 y9, LeO (inode_Names.l0 k y0 y1 y2 y3 y4 y5 y6 y7 y8 y9) (inode_Names.l0 (k + 1) y0 y1 y2 y3 y4 y5 y6 y7 y8 y9))
 | 0 => fun _ _ _ _ _ _ _ _ _ _ r h => by simp [inode_Names.l0] at h
 | k + 1 => by
  have ih0 := inode_Names.mono_l k
  ·intro y0 y1 y2 y3 y4 y5 y6 y7 y8 y9
   unfold inode_Names.l0
   repeat' first
   | (with_reducible exact ih0 _ _ _ _ _ _ _ _ _ _)
   | (with_reducible exact LeO.refl _)
   | (with_reducible exact LeO.none _)
   | (with_reducible refine LeO.ite ?_ ?_)
   | (with_reducible refine LeO.bind ?_ (fun _ => ?_))
   | exact ih0 _ _ _ _ _ _ _ _ _ _
   | exact LeO.none _
   | refine LeO.ite ?_ ?_
   | refine LeO.bind ?_ (fun _ => ?_)
theorem inode_Names.mono : ∀ a0 a1 a2 a3 a4 a5 a6 a7 a8 a9 a10 a11 k, LeO (inode_Names.f k a0 a1 a2 a3 a4 a5 a6 a7 a8 a9 a10 a11) (inode_Names.f (k + 1) a0 a1 a2 a3 a4 a5 a6 a7 a8 a9 a10 a11) := by
 intro a0 a1 a2 a3 a4 a5 a6 a7 a8 a9 a10 a11 k
 have ih0 := inode_Names.mono_l k
 unfold inode_Names.f
 repeat' first
   | (with_reducible exact ih0 _ _ _ _ _ _ _ _ _ _)
   | (with_reducible exact LeO.refl _)
   | (with_reducible exact LeO.none _)
   | (with_reducible refine LeO.ite ?_ ?_)
   | (with_reducible refine LeO.bind ?_ (fun _ => ?_))
   | exact ih0 _ _ _ _ _ _ _ _ _ _
   | exact LeO.none _
   | refine LeO.ite ?_ ?_
   | refine LeO.bind ?_ (fun _ => ?_)
set_option maxHeartbeats 8000000 in
set_option maxRecDepth 100000 in
theorem inode_Names.calls (k : Nat) (a0_0 : Int) (a0_1 : Int) (a0_2 : Int) (a0_3 : Int) (a0_4 : Int) (a0_5 : Int) (a0_6 : Int) (a0_7 : Int) (a0_8 : Int) (a0_9 : Int) (a0_10 : Int) (a0_11 : Int) (r : List Int) (w : World) (h : inode_Names.f k a0_0 a0_1 a0_2 a0_3 a0_4 a0_5 a0_6 a0_7 a0_8 a0_9 a0_10 a0_11 = some r) :
  Calls Try.prog 23 #[.agg #[.int .i64 a0_0, .int .i64 a0_1, .int .i64 a0_2, .int .i64 a0_3, .int .i64 a0_4, .int .i64 a0_5, .int .i64 a0_6, .int .i64 a0_7, .int .i64 a0_8, .int .i64 a0_9, .int .i64 a0_10, .int .i64 a0_11]] w fun e w' => ∃ v0_ : Value, e = .returned (v0_) ∧ Kd.R (Kd.int .i64) 3 w' w.heap.size (fun _ => True) v0_ r ∧ Below w.heap.size w w' := by
 have hu24 := Try.underlying24
 have HB := Aside0.mk (Below.refl w.heap.size w)
 have H : ((inode_all.f a0_0 a0_1 a0_2 a0_3 a0_4 a0_5 a0_6 a0_7 a0_8 a0_9 a0_10 a0_11).bind fun bt224 => (inode_Names.l0 k ([] : List Int) 0 bt224.1 bt224.2.1 bt224.2.2.1 bt224.2.2.2.1 bt224.2.2.2.2.1 bt224.2.2.2.2.2.1 bt224.2.2.2.2.2.2.1 bt224.2.2.2.2.2.2.2)) = some r := h
 clear h
 replace H := Option.bind_eq_some_iff.mp H
 obtain ⟨⟨t224, t225, t226, t227, t228, t229, t230, t231⟩, A20, H⟩ := H
 replace H : (inode_Names.l0 k ([] : List Int) 0 t224 t225 t226 t227 t228 t229 t230 t231) = some r := H
 have A2 := Aside0.mk A20
 clear A20
 have H' := Aside0.mk H
 clear H
 go_enter Try.func23, Try.ntmps23
 go_wp2_with (first | ((with_reducible refine gate_dst (N := 1) rfl ?_); refine box_event ?hg (N := 1) ?hd (cs := #[.int .i64 a0_0, .int .i64 a0_1, .int .i64 a0_2, .int .i64 a0_3, .int .i64 a0_4, .int .i64 a0_5, .int .i64 a0_6, .int .i64 a0_7, .int .i64 a0_8, .int .i64 a0_9, .int .i64 a0_10, .int .i64 a0_11]) (t := 24) ?hr ?_; (case hd => rfl); (case hg => rfl); (case hr => first | (go_simp; done) | (go_simp; rfl)); intro gb223 hg w3 hbox hb; have n0_ := Aside0.mk (below_step (by repeat (first | (with_reducible first | exact HB.out | apply below_alloc | apply pw_below_drewN | apply below_drew1) | exact HB.out)) hb); have n1_ := Aside0.mk (hbox); have n2_ := Aside0.mk ((by rw [hg]; exact (below_size (by repeat (first | (with_reducible first | exact HB.out | apply below_alloc | apply pw_below_drewN | apply below_drew1) | exact HB.out))) : w.heap.size ≤ gb223)); have n3_ := Aside0.mk ((by rw [hg]; exact (below_size (by repeat (first | (with_reducible first | exact HB.out | apply below_alloc | apply pw_below_drewN | apply below_drew1) | exact HB.out))) : w.heap.size ≤ gb223)); clear HB; have HB := n0_; have BK223 := n1_; have GW223 := n2_; have GE223 := n3_; clear n0_ n1_ n2_ n3_; clear hb hbox hg; have q_ := cells12 BK223.out; have hcz4_0 := q_.c0; have hcz4_1 := q_.c1; have hcz4_2 := q_.c2; have hcz4_3 := q_.c3; have hcz4_4 := q_.c4; have hcz4_5 := q_.c5; have hcz4_6 := q_.c6; have hcz4_7 := q_.c7; have hcz4_8 := q_.c8; have hcz4_9 := q_.c9; have hcz4_10 := q_.c10; have hcz4_11 := q_.c11; have hfz4_0 := q_.f0; have hfz4_1 := q_.f1; have hfz4_2 := q_.f2; have hfz4_3 := q_.f3; have hfz4_4 := q_.f4; have hfz4_5 := q_.f5; have hfz4_6 := q_.f6; have hfz4_7 := q_.f7; have hfz4_8 := q_.f8; have hfz4_9 := q_.f9; have hfz4_10 := q_.f10; have hfz4_11 := q_.f11; clear q_) | ((with_reducible refine gate_callee (f := 28) rfl ?_); refine goesL_ (some 7) rfl rfl Try.func28 (by kernel_rfl) rfl #[.agg #[.int .i64 a0_0, .int .i64 a0_1, .int .i64 a0_2, .int .i64 a0_3, .int .i64 a0_4, .int .i64 a0_5, .int .i64 a0_6, .int .i64 a0_7, .int .i64 a0_8, .int .i64 a0_9, .int .i64 a0_10, .int .i64 a0_11]] rfl (by (try simp only [List.map_toArray, List.map_cons, List.map_nil]); first | done | rfl | (simp only [List.length_drop, List.length_take]; rfl)) ?_; (with_reducible refine (inode_all.calls a0_0 a0_1 a0_2 a0_3 a0_4 a0_5 a0_6 a0_7 a0_8 a0_9 a0_10 a0_11 t224 t225 t226 t227 t228 t229 t230 t231 _ A2.out).mono ?_); rintro e w5 ⟨rfl, hb⟩; refine ⟨_, rfl, ?_⟩; have n0_ := Aside0.mk (blk_below (g := gb223) (o := .cells #[.int .i64 a0_0, .int .i64 a0_1, .int .i64 a0_2, .int .i64 a0_3, .int .i64 a0_4, .int .i64 a0_5, .int .i64 a0_6, .int .i64 a0_7, .int .i64 a0_8, .int .i64 a0_9, .int .i64 a0_10, .int .i64 a0_11] 24 (0, 0)) (by (with_reducible repeat (first | refine blk_drewN ?_ _ | refine blk_drew ?_ | refine blk_alloc ?_ _)); exact BK223.out) hb); have n1_ := Aside0.mk (below_step (by repeat (first | (with_reducible first | exact HB.out | apply below_alloc | apply pw_below_drewN | apply below_drew1 | refine below_set ?_ GE223.out) | exact HB.out)) hb); clear BK223; clear HB; have BK223 := n0_; have HB := n1_; clear n0_ n1_; (try clear hb); (try clear hb2); (try clear hk); (try clear hi)))
 go_loopg [3, 8] k (fun kq v3 v8 w' => ∃ (x3_1 : List Int) (x8_1 : Int), v8 = .int .i64 x8_1 ∧ Aside0 (inode_Names.l0 kq x3_1 x8_1 t224 t225 t226 t227 t228 t229 t230 t231 = some r) ∧ Aside0 (kq ≤ k) ∧ Aside0 (Kd.R (Kd.int .i64) 3 w' w.heap.size (fun _ => True) v3 x3_1) ∧ Aside0 (w'.heap[gb223]? = some (.cells #[.int .i64 a0_0, .int .i64 a0_1, .int .i64 a0_2, .int .i64 a0_3, .int .i64 a0_4, .int .i64 a0_5, .int .i64 a0_6, .int .i64 a0_7, .int .i64 a0_8, .int .i64 a0_9, .int .i64 a0_10, .int .i64 a0_11] 24 (0, 0))) ∧ Aside0 (Below w.heap.size w w'))
 case atStart => exact ⟨(([] : List Int)), (0), (by first | rfl | (simp; done) | (simp [*]; done)), H', ⟨Nat.le_refl _⟩, ⟨by first | exact Kd.R_nil _ _ _ _ _ | exact Kd.N_nil _ _ _ _ _ | exact Kd.V_nil _ _ _ _ _ | exact Kd.Q_nil _ _ _ _ _ | exact Kd.S_nil _ _ _ _ _⟩, ⟨by (with_reducible repeat (first | refine blk_drewN ?_ _ | refine blk_drew ?_ | refine blk_alloc ?_ _)); exact BK223.out⟩, ⟨by repeat (first | (with_reducible first | exact HB.out | apply below_alloc | apply pw_below_drewN | apply below_drew1 | refine below_set ?_ GE223.out) | exact HB.out)⟩⟩
 case round =>
  clear H'
  try clear c2
  try clear p2
  try clear hcz4_0 hcz4_1 hcz4_10 hcz4_11 hcz4_2 hcz4_3 hcz4_4 hcz4_5 hcz4_6 hcz4_7 hcz4_8 hcz4_9
  try clear hfz4_0 hfz4_1 hfz4_10 hfz4_11 hfz4_2 hfz4_3 hfz4_4 hfz4_5 hfz4_6 hfz4_7 hfz4_8 hfz4_9
  obtain ⟨x3_1, x8_1, rfl, HA, HK1, HO_3, BK223, HB⟩ := hrel
  cases gk with
  | zero => exact absurd HA.out (by simp [inode_Names.l0])
  | succ k1 =>
   have H := HA.out
   clear HA
   simp only [inode_Names.l0] at H
   by_cases c6 : x8_1 < 8
   ·rw [if_pos c6] at H
    have c6b0 : decide (x8_1 < 8) = true := decide_eq_true c6
    clear c6
    by_cases c7 : x8_1 = (0 : Int)
    ·rw [if_pos c7] at H
     have c7z := Aside0.mk c7
     (try (have c7i : ∀ (t_ : TypeId) (v_ : Value), Instr.index t_ v_ (.int .i64 x8_1) = Instr.index t_ v_ (.int .i64 0) := fun _ _ => by rw [c7]))
     (try (have c7a : ∀ (t_ : TypeId) (v_ : Value), Instr.indexAt t_ v_ (.int .i64 x8_1) = Instr.indexAt t_ v_ (.int .i64 0) := fun _ _ => by rw [c7]))
     (try (have c7j22 : ∀ (W_ : World) (v0_ v1_ v2_ v3_ v4_ v5_ : Value), (Instr.index 22 (.agg #[v0_, v1_, v2_, v3_, v4_, v5_]) (.int .i64 0)).run Try.prog W_ = .ok v0_ W_ := by intros; kernel_rfl))
     (try (have c7j49 : ∀ (W_ : World) (v0_ v1_ v2_ v3_ v4_ v5_ v6_ v7_ : Value), (Instr.index 49 (.agg #[v0_, v1_, v2_, v3_, v4_, v5_, v6_, v7_]) (.int .i64 0)).run Try.prog W_ = .ok v0_ W_ := by intros; kernel_rfl))
     have c7b0 : (x8_1 == (0 : Int)) = true := beq_iff_eq.mpr c7
     have c7b1 : (x8_1 != (0 : Int)) = false := bne_eq_false_iff_eq.mpr c7
     clear c7
     by_cases c8 : t224 = 0
     ·rw [if_pos c8] at H
      have c8b0 : (t224 == 0) = true := beq_iff_eq.mpr c8
      have c8b1 : (t224 != 0) = false := bne_eq_false_iff_eq.mpr c8
      clear c8
      have H' := Aside0.mk H
      clear H
      go_wp2
      go_roundg k1
      case measure => have := HK1.out; omega
      case rel => exact ⟨(x3_1), (wrap64 (x8_1 + 1)), (by first | rfl | (simp; done) | (simp [*]; done) | (have hz_ := c7z.out; congr 1; unfold wrap64; omega)), H', ⟨by have := HK1.out; omega⟩, ⟨by (with_reducible repeat (first | apply Kd.R_alloc | apply Kd.R_drewN | apply Kd.R_drew)); exact HO_3.out⟩, ⟨by (with_reducible repeat (first | refine blk_drewN ?_ _ | refine blk_drew ?_ | refine blk_alloc ?_ _)); exact BK223.out⟩, ⟨by repeat (first | (with_reducible first | exact HB.out | apply below_alloc | apply pw_below_drewN | apply below_drew1 | refine below_set ?_ GE223.out) | exact HB.out)⟩⟩
     ·rw [if_neg c8] at H
      have c8b0 : (t224 == 0) = false := beq_eq_false_iff_ne.mpr c8
      have c8b1 : (t224 != 0) = true := bne_iff_ne.mpr c8
      by_cases c9 : x3_1.length < 17592186044416
      ·rw [if_pos c9] at H
       have LMc9 := Aside0.mk c9
       clear c9
       obtain ⟨y232, hy232⟩ : ∃ y_ : List Int, y_ = (x3_1 ++ [t224]) := ⟨_, rfl⟩
       replace H : (inode_Names.l0 k1 y232 (wrap64 (x8_1 + 1)) t224 t225 t226 t227 t228 t229 t230 t231) = some r := by first | (rw [hy232]; with_reducible exact H) | (have H2_ := (Option.bind_some _ _).symm.trans H; rw [hy232]; with_reducible exact H2_) | (have H2_ := (Option.bind_some _ _).symm.trans H; with_reducible exact H2_) | with_reducible exact H | (rw [hy232]; exact H) | exact H
       have Ny232 := Aside0.mk hy232
       clear hy232
       have H' := Aside0.mk H
       clear H
       go_wp2_with (first | ((with_reducible refine gate_builtin (b := .append) (xs := #[.tmp 13, .tmp 15]) rfl ?_); at_builtin; refine Kd.R_append (Kd.int .i64) (w0 := w) w.heap.size rfl (.tmp 13) (.tmp 15) 44 3 (.int .i64 0) 8 rfl Try.underlying44 info3 rfl (by decide) (by omega) u3 x3_1 t224 [.int .i64 t224] (fun _ => True) (fun _ => False) rfl rfl ?aP (fun _ hk => hk.elim) ?aF ?aO ?aB ?aS ?aL ?_; (case aP => exact rfl); (case aB => exact (by repeat (first | (with_reducible first | exact HB.out | apply below_alloc | apply pw_below_drewN | apply below_drew1 | refine below_set ?_ GE223.out) | exact HB.out))); (case aF => exact (fun _ _ => trivial)); (case aO => exact (by (with_reducible repeat (first | apply Kd.R_alloc | apply Kd.R_drewN | apply Kd.R_drew)); exact HO_3.out)); (case aS => exact (below_size (by repeat (first | (with_reducible first | exact HB.out | apply below_alloc | apply pw_below_drewN | apply below_drew1 | refine below_set ?_ GE223.out) | exact HB.out)))); (case aL => have := LMc9.out; omega); intro v233 w10 ho hb hg hat; rw [← Ny232.out] at ho; have n0_ := Aside0.mk (blk_grown (g := gb223) (o := .cells #[.int .i64 a0_0, .int .i64 a0_1, .int .i64 a0_2, .int .i64 a0_3, .int .i64 a0_4, .int .i64 a0_5, .int .i64 a0_6, .int .i64 a0_7, .int .i64 a0_8, .int .i64 a0_9, .int .i64 a0_10, .int .i64 a0_11] 24 (0, 0)) (by (with_reducible repeat (first | refine blk_drewN ?_ _ | refine blk_drew ?_ | refine blk_alloc ?_ _)); exact BK223.out) hg (Kd.R_ne HO_3.out BK223.out (by decide))); have n1_ := Aside0.mk (hb); have n2_ := Aside0.mk (ho); clear BK223; clear HB; clear HO_3; have BK223 := n0_; have HB := n1_; have HO234 := n2_; clear n0_ n1_ n2_; clear ho hb hg hat))
       go_roundg k1
       case measure => have := HK1.out; omega
       case rel => exact ⟨(y232), (wrap64 (x8_1 + 1)), (by first | rfl | (simp; done) | (simp [*]; done) | (have hz_ := c7z.out; congr 1; unfold wrap64; omega)), H', ⟨by have := HK1.out; omega⟩, ⟨by (with_reducible repeat (first | apply Kd.R_alloc | apply Kd.R_drewN | apply Kd.R_drew)); exact HO234.out⟩, ⟨by (with_reducible repeat (first | refine blk_drewN ?_ _ | refine blk_drew ?_ | refine blk_alloc ?_ _)); exact BK223.out⟩, ⟨by repeat (first | (with_reducible first | exact HB.out | apply below_alloc | apply pw_below_drewN | apply below_drew1 | refine below_set ?_ GE223.out) | exact HB.out)⟩⟩
      ·rw [if_neg c9] at H
       exact absurd H (by simp)
    ·rw [if_neg c7] at H
     have c7b0 : (x8_1 == (0 : Int)) = false := beq_eq_false_iff_ne.mpr c7
     have c7b1 : (x8_1 != (0 : Int)) = true := bne_iff_ne.mpr c7
     by_cases c11 : x8_1 = (1 : Int)
     ·rw [if_pos c11] at H
      have c11z := Aside0.mk c11
      (try (have c11i : ∀ (t_ : TypeId) (v_ : Value), Instr.index t_ v_ (.int .i64 x8_1) = Instr.index t_ v_ (.int .i64 1) := fun _ _ => by rw [c11]))
      (try (have c11a : ∀ (t_ : TypeId) (v_ : Value), Instr.indexAt t_ v_ (.int .i64 x8_1) = Instr.indexAt t_ v_ (.int .i64 1) := fun _ _ => by rw [c11]))
      (try (have c11j22 : ∀ (W_ : World) (v0_ v1_ v2_ v3_ v4_ v5_ : Value), (Instr.index 22 (.agg #[v0_, v1_, v2_, v3_, v4_, v5_]) (.int .i64 1)).run Try.prog W_ = .ok v1_ W_ := by intros; kernel_rfl))
      (try (have c11j49 : ∀ (W_ : World) (v0_ v1_ v2_ v3_ v4_ v5_ v6_ v7_ : Value), (Instr.index 49 (.agg #[v0_, v1_, v2_, v3_, v4_, v5_, v6_, v7_]) (.int .i64 1)).run Try.prog W_ = .ok v1_ W_ := by intros; kernel_rfl))
      have c11b0 : (x8_1 == (1 : Int)) = true := beq_iff_eq.mpr c11
      have c11b1 : (x8_1 != (1 : Int)) = false := bne_eq_false_iff_eq.mpr c11
      clear c11
      by_cases c12 : t225 = 0
      ·rw [if_pos c12] at H
       have c12b0 : (t225 == 0) = true := beq_iff_eq.mpr c12
       have c12b1 : (t225 != 0) = false := bne_eq_false_iff_eq.mpr c12
       clear c12
       have H' := Aside0.mk H
       clear H
       go_wp2
       go_roundg k1
       case measure => have := HK1.out; omega
       case rel => exact ⟨(x3_1), (wrap64 (x8_1 + 1)), (by first | rfl | (simp; done) | (simp [*]; done) | (have hz_ := c11z.out; congr 1; unfold wrap64; omega)), H', ⟨by have := HK1.out; omega⟩, ⟨by (with_reducible repeat (first | apply Kd.R_alloc | apply Kd.R_drewN | apply Kd.R_drew)); exact HO_3.out⟩, ⟨by (with_reducible repeat (first | refine blk_drewN ?_ _ | refine blk_drew ?_ | refine blk_alloc ?_ _)); exact BK223.out⟩, ⟨by repeat (first | (with_reducible first | exact HB.out | apply below_alloc | apply pw_below_drewN | apply below_drew1 | refine below_set ?_ GE223.out) | exact HB.out)⟩⟩
      ·rw [if_neg c12] at H
       have c12b0 : (t225 == 0) = false := beq_eq_false_iff_ne.mpr c12
       have c12b1 : (t225 != 0) = true := bne_iff_ne.mpr c12
       by_cases c13 : x3_1.length < 17592186044416
       ·rw [if_pos c13] at H
        have LMc13 := Aside0.mk c13
        clear c13
        obtain ⟨y235, hy235⟩ : ∃ y_ : List Int, y_ = (x3_1 ++ [t225]) := ⟨_, rfl⟩
        replace H : (inode_Names.l0 k1 y235 (wrap64 (x8_1 + 1)) t224 t225 t226 t227 t228 t229 t230 t231) = some r := by first | (rw [hy235]; with_reducible exact H) | (have H2_ := (Option.bind_some _ _).symm.trans H; rw [hy235]; with_reducible exact H2_) | (have H2_ := (Option.bind_some _ _).symm.trans H; with_reducible exact H2_) | with_reducible exact H | (rw [hy235]; exact H) | exact H
        have Ny235 := Aside0.mk hy235
        clear hy235
        have H' := Aside0.mk H
        clear H
        go_wp2_with (first | ((with_reducible refine gate_builtin (b := .append) (xs := #[.tmp 13, .tmp 15]) rfl ?_); at_builtin; refine Kd.R_append (Kd.int .i64) (w0 := w) w.heap.size rfl (.tmp 13) (.tmp 15) 44 3 (.int .i64 0) 8 rfl Try.underlying44 info3 rfl (by decide) (by omega) u3 x3_1 t225 [.int .i64 t225] (fun _ => True) (fun _ => False) rfl rfl ?aP (fun _ hk => hk.elim) ?aF ?aO ?aB ?aS ?aL ?_; (case aP => exact rfl); (case aB => exact (by repeat (first | (with_reducible first | exact HB.out | apply below_alloc | apply pw_below_drewN | apply below_drew1 | refine below_set ?_ GE223.out) | exact HB.out))); (case aF => exact (fun _ _ => trivial)); (case aO => exact (by (with_reducible repeat (first | apply Kd.R_alloc | apply Kd.R_drewN | apply Kd.R_drew)); exact HO_3.out)); (case aS => exact (below_size (by repeat (first | (with_reducible first | exact HB.out | apply below_alloc | apply pw_below_drewN | apply below_drew1 | refine below_set ?_ GE223.out) | exact HB.out)))); (case aL => have := LMc13.out; omega); intro v236 w14 ho hb hg hat; rw [← Ny235.out] at ho; have n0_ := Aside0.mk (blk_grown (g := gb223) (o := .cells #[.int .i64 a0_0, .int .i64 a0_1, .int .i64 a0_2, .int .i64 a0_3, .int .i64 a0_4, .int .i64 a0_5, .int .i64 a0_6, .int .i64 a0_7, .int .i64 a0_8, .int .i64 a0_9, .int .i64 a0_10, .int .i64 a0_11] 24 (0, 0)) (by (with_reducible repeat (first | refine blk_drewN ?_ _ | refine blk_drew ?_ | refine blk_alloc ?_ _)); exact BK223.out) hg (Kd.R_ne HO_3.out BK223.out (by decide))); have n1_ := Aside0.mk (hb); have n2_ := Aside0.mk (ho); clear BK223; clear HB; clear HO_3; have BK223 := n0_; have HB := n1_; have HO237 := n2_; clear n0_ n1_ n2_; clear ho hb hg hat))
        go_roundg k1
        case measure => have := HK1.out; omega
        case rel => exact ⟨(y235), (wrap64 (x8_1 + 1)), (by first | rfl | (simp; done) | (simp [*]; done) | (have hz_ := c11z.out; congr 1; unfold wrap64; omega)), H', ⟨by have := HK1.out; omega⟩, ⟨by (with_reducible repeat (first | apply Kd.R_alloc | apply Kd.R_drewN | apply Kd.R_drew)); exact HO237.out⟩, ⟨by (with_reducible repeat (first | refine blk_drewN ?_ _ | refine blk_drew ?_ | refine blk_alloc ?_ _)); exact BK223.out⟩, ⟨by repeat (first | (with_reducible first | exact HB.out | apply below_alloc | apply pw_below_drewN | apply below_drew1 | refine below_set ?_ GE223.out) | exact HB.out)⟩⟩
       ·rw [if_neg c13] at H
        exact absurd H (by simp)
     ·rw [if_neg c11] at H
      have c11b0 : (x8_1 == (1 : Int)) = false := beq_eq_false_iff_ne.mpr c11
      have c11b1 : (x8_1 != (1 : Int)) = true := bne_iff_ne.mpr c11
      by_cases c15 : x8_1 = (2 : Int)
      ·rw [if_pos c15] at H
       have c15z := Aside0.mk c15
       (try (have c15i : ∀ (t_ : TypeId) (v_ : Value), Instr.index t_ v_ (.int .i64 x8_1) = Instr.index t_ v_ (.int .i64 2) := fun _ _ => by rw [c15]))
       (try (have c15a : ∀ (t_ : TypeId) (v_ : Value), Instr.indexAt t_ v_ (.int .i64 x8_1) = Instr.indexAt t_ v_ (.int .i64 2) := fun _ _ => by rw [c15]))
       (try (have c15j22 : ∀ (W_ : World) (v0_ v1_ v2_ v3_ v4_ v5_ : Value), (Instr.index 22 (.agg #[v0_, v1_, v2_, v3_, v4_, v5_]) (.int .i64 2)).run Try.prog W_ = .ok v2_ W_ := by intros; kernel_rfl))
       (try (have c15j49 : ∀ (W_ : World) (v0_ v1_ v2_ v3_ v4_ v5_ v6_ v7_ : Value), (Instr.index 49 (.agg #[v0_, v1_, v2_, v3_, v4_, v5_, v6_, v7_]) (.int .i64 2)).run Try.prog W_ = .ok v2_ W_ := by intros; kernel_rfl))
       have c15b0 : (x8_1 == (2 : Int)) = true := beq_iff_eq.mpr c15
       have c15b1 : (x8_1 != (2 : Int)) = false := bne_eq_false_iff_eq.mpr c15
       clear c15
       by_cases c16 : t226 = 0
       ·rw [if_pos c16] at H
        have c16b0 : (t226 == 0) = true := beq_iff_eq.mpr c16
        have c16b1 : (t226 != 0) = false := bne_eq_false_iff_eq.mpr c16
        clear c16
        have H' := Aside0.mk H
        clear H
        go_wp2
        go_roundg k1
        case measure => have := HK1.out; omega
        case rel => exact ⟨(x3_1), (wrap64 (x8_1 + 1)), (by first | rfl | (simp; done) | (simp [*]; done) | (have hz_ := c15z.out; congr 1; unfold wrap64; omega)), H', ⟨by have := HK1.out; omega⟩, ⟨by (with_reducible repeat (first | apply Kd.R_alloc | apply Kd.R_drewN | apply Kd.R_drew)); exact HO_3.out⟩, ⟨by (with_reducible repeat (first | refine blk_drewN ?_ _ | refine blk_drew ?_ | refine blk_alloc ?_ _)); exact BK223.out⟩, ⟨by repeat (first | (with_reducible first | exact HB.out | apply below_alloc | apply pw_below_drewN | apply below_drew1 | refine below_set ?_ GE223.out) | exact HB.out)⟩⟩
       ·rw [if_neg c16] at H
        have c16b0 : (t226 == 0) = false := beq_eq_false_iff_ne.mpr c16
        have c16b1 : (t226 != 0) = true := bne_iff_ne.mpr c16
        by_cases c17 : x3_1.length < 17592186044416
        ·rw [if_pos c17] at H
         have LMc17 := Aside0.mk c17
         clear c17
         obtain ⟨y238, hy238⟩ : ∃ y_ : List Int, y_ = (x3_1 ++ [t226]) := ⟨_, rfl⟩
         replace H : (inode_Names.l0 k1 y238 (wrap64 (x8_1 + 1)) t224 t225 t226 t227 t228 t229 t230 t231) = some r := by first | (rw [hy238]; with_reducible exact H) | (have H2_ := (Option.bind_some _ _).symm.trans H; rw [hy238]; with_reducible exact H2_) | (have H2_ := (Option.bind_some _ _).symm.trans H; with_reducible exact H2_) | with_reducible exact H | (rw [hy238]; exact H) | exact H
         have Ny238 := Aside0.mk hy238
         clear hy238
         have H' := Aside0.mk H
         clear H
         go_wp2_with (first | ((with_reducible refine gate_builtin (b := .append) (xs := #[.tmp 13, .tmp 15]) rfl ?_); at_builtin; refine Kd.R_append (Kd.int .i64) (w0 := w) w.heap.size rfl (.tmp 13) (.tmp 15) 44 3 (.int .i64 0) 8 rfl Try.underlying44 info3 rfl (by decide) (by omega) u3 x3_1 t226 [.int .i64 t226] (fun _ => True) (fun _ => False) rfl rfl ?aP (fun _ hk => hk.elim) ?aF ?aO ?aB ?aS ?aL ?_; (case aP => exact rfl); (case aB => exact (by repeat (first | (with_reducible first | exact HB.out | apply below_alloc | apply pw_below_drewN | apply below_drew1 | refine below_set ?_ GE223.out) | exact HB.out))); (case aF => exact (fun _ _ => trivial)); (case aO => exact (by (with_reducible repeat (first | apply Kd.R_alloc | apply Kd.R_drewN | apply Kd.R_drew)); exact HO_3.out)); (case aS => exact (below_size (by repeat (first | (with_reducible first | exact HB.out | apply below_alloc | apply pw_below_drewN | apply below_drew1 | refine below_set ?_ GE223.out) | exact HB.out)))); (case aL => have := LMc17.out; omega); intro v239 w18 ho hb hg hat; rw [← Ny238.out] at ho; have n0_ := Aside0.mk (blk_grown (g := gb223) (o := .cells #[.int .i64 a0_0, .int .i64 a0_1, .int .i64 a0_2, .int .i64 a0_3, .int .i64 a0_4, .int .i64 a0_5, .int .i64 a0_6, .int .i64 a0_7, .int .i64 a0_8, .int .i64 a0_9, .int .i64 a0_10, .int .i64 a0_11] 24 (0, 0)) (by (with_reducible repeat (first | refine blk_drewN ?_ _ | refine blk_drew ?_ | refine blk_alloc ?_ _)); exact BK223.out) hg (Kd.R_ne HO_3.out BK223.out (by decide))); have n1_ := Aside0.mk (hb); have n2_ := Aside0.mk (ho); clear BK223; clear HB; clear HO_3; have BK223 := n0_; have HB := n1_; have HO240 := n2_; clear n0_ n1_ n2_; clear ho hb hg hat))
         go_roundg k1
         case measure => have := HK1.out; omega
         case rel => exact ⟨(y238), (wrap64 (x8_1 + 1)), (by first | rfl | (simp; done) | (simp [*]; done) | (have hz_ := c15z.out; congr 1; unfold wrap64; omega)), H', ⟨by have := HK1.out; omega⟩, ⟨by (with_reducible repeat (first | apply Kd.R_alloc | apply Kd.R_drewN | apply Kd.R_drew)); exact HO240.out⟩, ⟨by (with_reducible repeat (first | refine blk_drewN ?_ _ | refine blk_drew ?_ | refine blk_alloc ?_ _)); exact BK223.out⟩, ⟨by repeat (first | (with_reducible first | exact HB.out | apply below_alloc | apply pw_below_drewN | apply below_drew1 | refine below_set ?_ GE223.out) | exact HB.out)⟩⟩
        ·rw [if_neg c17] at H
         exact absurd H (by simp)
      ·rw [if_neg c15] at H
       have c15b0 : (x8_1 == (2 : Int)) = false := beq_eq_false_iff_ne.mpr c15
       have c15b1 : (x8_1 != (2 : Int)) = true := bne_iff_ne.mpr c15
       by_cases c19 : x8_1 = (3 : Int)
       ·rw [if_pos c19] at H
        have c19z := Aside0.mk c19
        (try (have c19i : ∀ (t_ : TypeId) (v_ : Value), Instr.index t_ v_ (.int .i64 x8_1) = Instr.index t_ v_ (.int .i64 3) := fun _ _ => by rw [c19]))
        (try (have c19a : ∀ (t_ : TypeId) (v_ : Value), Instr.indexAt t_ v_ (.int .i64 x8_1) = Instr.indexAt t_ v_ (.int .i64 3) := fun _ _ => by rw [c19]))
        (try (have c19j22 : ∀ (W_ : World) (v0_ v1_ v2_ v3_ v4_ v5_ : Value), (Instr.index 22 (.agg #[v0_, v1_, v2_, v3_, v4_, v5_]) (.int .i64 3)).run Try.prog W_ = .ok v3_ W_ := by intros; kernel_rfl))
        (try (have c19j49 : ∀ (W_ : World) (v0_ v1_ v2_ v3_ v4_ v5_ v6_ v7_ : Value), (Instr.index 49 (.agg #[v0_, v1_, v2_, v3_, v4_, v5_, v6_, v7_]) (.int .i64 3)).run Try.prog W_ = .ok v3_ W_ := by intros; kernel_rfl))
        have c19b0 : (x8_1 == (3 : Int)) = true := beq_iff_eq.mpr c19
        have c19b1 : (x8_1 != (3 : Int)) = false := bne_eq_false_iff_eq.mpr c19
        clear c19
        by_cases c20 : t227 = 0
        ·rw [if_pos c20] at H
         have c20b0 : (t227 == 0) = true := beq_iff_eq.mpr c20
         have c20b1 : (t227 != 0) = false := bne_eq_false_iff_eq.mpr c20
         clear c20
         have H' := Aside0.mk H
         clear H
         go_wp2
         go_roundg k1
         case measure => have := HK1.out; omega
         case rel => exact ⟨(x3_1), (wrap64 (x8_1 + 1)), (by first | rfl | (simp; done) | (simp [*]; done) | (have hz_ := c19z.out; congr 1; unfold wrap64; omega)), H', ⟨by have := HK1.out; omega⟩, ⟨by (with_reducible repeat (first | apply Kd.R_alloc | apply Kd.R_drewN | apply Kd.R_drew)); exact HO_3.out⟩, ⟨by (with_reducible repeat (first | refine blk_drewN ?_ _ | refine blk_drew ?_ | refine blk_alloc ?_ _)); exact BK223.out⟩, ⟨by repeat (first | (with_reducible first | exact HB.out | apply below_alloc | apply pw_below_drewN | apply below_drew1 | refine below_set ?_ GE223.out) | exact HB.out)⟩⟩
        ·rw [if_neg c20] at H
         have c20b0 : (t227 == 0) = false := beq_eq_false_iff_ne.mpr c20
         have c20b1 : (t227 != 0) = true := bne_iff_ne.mpr c20
         by_cases c21 : x3_1.length < 17592186044416
         ·rw [if_pos c21] at H
          have LMc21 := Aside0.mk c21
          clear c21
          obtain ⟨y241, hy241⟩ : ∃ y_ : List Int, y_ = (x3_1 ++ [t227]) := ⟨_, rfl⟩
          replace H : (inode_Names.l0 k1 y241 (wrap64 (x8_1 + 1)) t224 t225 t226 t227 t228 t229 t230 t231) = some r := by first | (rw [hy241]; with_reducible exact H) | (have H2_ := (Option.bind_some _ _).symm.trans H; rw [hy241]; with_reducible exact H2_) | (have H2_ := (Option.bind_some _ _).symm.trans H; with_reducible exact H2_) | with_reducible exact H | (rw [hy241]; exact H) | exact H
          have Ny241 := Aside0.mk hy241
          clear hy241
          have H' := Aside0.mk H
          clear H
          go_wp2_with (first | ((with_reducible refine gate_builtin (b := .append) (xs := #[.tmp 13, .tmp 15]) rfl ?_); at_builtin; refine Kd.R_append (Kd.int .i64) (w0 := w) w.heap.size rfl (.tmp 13) (.tmp 15) 44 3 (.int .i64 0) 8 rfl Try.underlying44 info3 rfl (by decide) (by omega) u3 x3_1 t227 [.int .i64 t227] (fun _ => True) (fun _ => False) rfl rfl ?aP (fun _ hk => hk.elim) ?aF ?aO ?aB ?aS ?aL ?_; (case aP => exact rfl); (case aB => exact (by repeat (first | (with_reducible first | exact HB.out | apply below_alloc | apply pw_below_drewN | apply below_drew1 | refine below_set ?_ GE223.out) | exact HB.out))); (case aF => exact (fun _ _ => trivial)); (case aO => exact (by (with_reducible repeat (first | apply Kd.R_alloc | apply Kd.R_drewN | apply Kd.R_drew)); exact HO_3.out)); (case aS => exact (below_size (by repeat (first | (with_reducible first | exact HB.out | apply below_alloc | apply pw_below_drewN | apply below_drew1 | refine below_set ?_ GE223.out) | exact HB.out)))); (case aL => have := LMc21.out; omega); intro v242 w22 ho hb hg hat; rw [← Ny241.out] at ho; have n0_ := Aside0.mk (blk_grown (g := gb223) (o := .cells #[.int .i64 a0_0, .int .i64 a0_1, .int .i64 a0_2, .int .i64 a0_3, .int .i64 a0_4, .int .i64 a0_5, .int .i64 a0_6, .int .i64 a0_7, .int .i64 a0_8, .int .i64 a0_9, .int .i64 a0_10, .int .i64 a0_11] 24 (0, 0)) (by (with_reducible repeat (first | refine blk_drewN ?_ _ | refine blk_drew ?_ | refine blk_alloc ?_ _)); exact BK223.out) hg (Kd.R_ne HO_3.out BK223.out (by decide))); have n1_ := Aside0.mk (hb); have n2_ := Aside0.mk (ho); clear BK223; clear HB; clear HO_3; have BK223 := n0_; have HB := n1_; have HO243 := n2_; clear n0_ n1_ n2_; clear ho hb hg hat))
          go_roundg k1
          case measure => have := HK1.out; omega
          case rel => exact ⟨(y241), (wrap64 (x8_1 + 1)), (by first | rfl | (simp; done) | (simp [*]; done) | (have hz_ := c19z.out; congr 1; unfold wrap64; omega)), H', ⟨by have := HK1.out; omega⟩, ⟨by (with_reducible repeat (first | apply Kd.R_alloc | apply Kd.R_drewN | apply Kd.R_drew)); exact HO243.out⟩, ⟨by (with_reducible repeat (first | refine blk_drewN ?_ _ | refine blk_drew ?_ | refine blk_alloc ?_ _)); exact BK223.out⟩, ⟨by repeat (first | (with_reducible first | exact HB.out | apply below_alloc | apply pw_below_drewN | apply below_drew1 | refine below_set ?_ GE223.out) | exact HB.out)⟩⟩
         ·rw [if_neg c21] at H
          exact absurd H (by simp)
       ·rw [if_neg c19] at H
        have c19b0 : (x8_1 == (3 : Int)) = false := beq_eq_false_iff_ne.mpr c19
        have c19b1 : (x8_1 != (3 : Int)) = true := bne_iff_ne.mpr c19
        by_cases c23 : x8_1 = (4 : Int)
        ·rw [if_pos c23] at H
         have c23z := Aside0.mk c23
         (try (have c23i : ∀ (t_ : TypeId) (v_ : Value), Instr.index t_ v_ (.int .i64 x8_1) = Instr.index t_ v_ (.int .i64 4) := fun _ _ => by rw [c23]))
         (try (have c23a : ∀ (t_ : TypeId) (v_ : Value), Instr.indexAt t_ v_ (.int .i64 x8_1) = Instr.indexAt t_ v_ (.int .i64 4) := fun _ _ => by rw [c23]))
         (try (have c23j22 : ∀ (W_ : World) (v0_ v1_ v2_ v3_ v4_ v5_ : Value), (Instr.index 22 (.agg #[v0_, v1_, v2_, v3_, v4_, v5_]) (.int .i64 4)).run Try.prog W_ = .ok v4_ W_ := by intros; kernel_rfl))
         (try (have c23j49 : ∀ (W_ : World) (v0_ v1_ v2_ v3_ v4_ v5_ v6_ v7_ : Value), (Instr.index 49 (.agg #[v0_, v1_, v2_, v3_, v4_, v5_, v6_, v7_]) (.int .i64 4)).run Try.prog W_ = .ok v4_ W_ := by intros; kernel_rfl))
         have c23b0 : (x8_1 == (4 : Int)) = true := beq_iff_eq.mpr c23
         have c23b1 : (x8_1 != (4 : Int)) = false := bne_eq_false_iff_eq.mpr c23
         clear c23
         by_cases c24 : t228 = 0
         ·rw [if_pos c24] at H
          have c24b0 : (t228 == 0) = true := beq_iff_eq.mpr c24
          have c24b1 : (t228 != 0) = false := bne_eq_false_iff_eq.mpr c24
          clear c24
          have H' := Aside0.mk H
          clear H
          go_wp2
          go_roundg k1
          case measure => have := HK1.out; omega
          case rel => exact ⟨(x3_1), (wrap64 (x8_1 + 1)), (by first | rfl | (simp; done) | (simp [*]; done) | (have hz_ := c23z.out; congr 1; unfold wrap64; omega)), H', ⟨by have := HK1.out; omega⟩, ⟨by (with_reducible repeat (first | apply Kd.R_alloc | apply Kd.R_drewN | apply Kd.R_drew)); exact HO_3.out⟩, ⟨by (with_reducible repeat (first | refine blk_drewN ?_ _ | refine blk_drew ?_ | refine blk_alloc ?_ _)); exact BK223.out⟩, ⟨by repeat (first | (with_reducible first | exact HB.out | apply below_alloc | apply pw_below_drewN | apply below_drew1 | refine below_set ?_ GE223.out) | exact HB.out)⟩⟩
         ·rw [if_neg c24] at H
          have c24b0 : (t228 == 0) = false := beq_eq_false_iff_ne.mpr c24
          have c24b1 : (t228 != 0) = true := bne_iff_ne.mpr c24
          by_cases c25 : x3_1.length < 17592186044416
          ·rw [if_pos c25] at H
           have LMc25 := Aside0.mk c25
           clear c25
           obtain ⟨y244, hy244⟩ : ∃ y_ : List Int, y_ = (x3_1 ++ [t228]) := ⟨_, rfl⟩
           replace H : (inode_Names.l0 k1 y244 (wrap64 (x8_1 + 1)) t224 t225 t226 t227 t228 t229 t230 t231) = some r := by first | (rw [hy244]; with_reducible exact H) | (have H2_ := (Option.bind_some _ _).symm.trans H; rw [hy244]; with_reducible exact H2_) | (have H2_ := (Option.bind_some _ _).symm.trans H; with_reducible exact H2_) | with_reducible exact H | (rw [hy244]; exact H) | exact H
           have Ny244 := Aside0.mk hy244
           clear hy244
           have H' := Aside0.mk H
           clear H
           go_wp2_with (first | ((with_reducible refine gate_builtin (b := .append) (xs := #[.tmp 13, .tmp 15]) rfl ?_); at_builtin; refine Kd.R_append (Kd.int .i64) (w0 := w) w.heap.size rfl (.tmp 13) (.tmp 15) 44 3 (.int .i64 0) 8 rfl Try.underlying44 info3 rfl (by decide) (by omega) u3 x3_1 t228 [.int .i64 t228] (fun _ => True) (fun _ => False) rfl rfl ?aP (fun _ hk => hk.elim) ?aF ?aO ?aB ?aS ?aL ?_; (case aP => exact rfl); (case aB => exact (by repeat (first | (with_reducible first | exact HB.out | apply below_alloc | apply pw_below_drewN | apply below_drew1 | refine below_set ?_ GE223.out) | exact HB.out))); (case aF => exact (fun _ _ => trivial)); (case aO => exact (by (with_reducible repeat (first | apply Kd.R_alloc | apply Kd.R_drewN | apply Kd.R_drew)); exact HO_3.out)); (case aS => exact (below_size (by repeat (first | (with_reducible first | exact HB.out | apply below_alloc | apply pw_below_drewN | apply below_drew1 | refine below_set ?_ GE223.out) | exact HB.out)))); (case aL => have := LMc25.out; omega); intro v245 w26 ho hb hg hat; rw [← Ny244.out] at ho; have n0_ := Aside0.mk (blk_grown (g := gb223) (o := .cells #[.int .i64 a0_0, .int .i64 a0_1, .int .i64 a0_2, .int .i64 a0_3, .int .i64 a0_4, .int .i64 a0_5, .int .i64 a0_6, .int .i64 a0_7, .int .i64 a0_8, .int .i64 a0_9, .int .i64 a0_10, .int .i64 a0_11] 24 (0, 0)) (by (with_reducible repeat (first | refine blk_drewN ?_ _ | refine blk_drew ?_ | refine blk_alloc ?_ _)); exact BK223.out) hg (Kd.R_ne HO_3.out BK223.out (by decide))); have n1_ := Aside0.mk (hb); have n2_ := Aside0.mk (ho); clear BK223; clear HB; clear HO_3; have BK223 := n0_; have HB := n1_; have HO246 := n2_; clear n0_ n1_ n2_; clear ho hb hg hat))
           go_roundg k1
           case measure => have := HK1.out; omega
           case rel => exact ⟨(y244), (wrap64 (x8_1 + 1)), (by first | rfl | (simp; done) | (simp [*]; done) | (have hz_ := c23z.out; congr 1; unfold wrap64; omega)), H', ⟨by have := HK1.out; omega⟩, ⟨by (with_reducible repeat (first | apply Kd.R_alloc | apply Kd.R_drewN | apply Kd.R_drew)); exact HO246.out⟩, ⟨by (with_reducible repeat (first | refine blk_drewN ?_ _ | refine blk_drew ?_ | refine blk_alloc ?_ _)); exact BK223.out⟩, ⟨by repeat (first | (with_reducible first | exact HB.out | apply below_alloc | apply pw_below_drewN | apply below_drew1 | refine below_set ?_ GE223.out) | exact HB.out)⟩⟩
          ·rw [if_neg c25] at H
           exact absurd H (by simp)
        ·rw [if_neg c23] at H
         have c23b0 : (x8_1 == (4 : Int)) = false := beq_eq_false_iff_ne.mpr c23
         have c23b1 : (x8_1 != (4 : Int)) = true := bne_iff_ne.mpr c23
         by_cases c27 : x8_1 = (5 : Int)
         ·rw [if_pos c27] at H
          have c27z := Aside0.mk c27
          (try (have c27i : ∀ (t_ : TypeId) (v_ : Value), Instr.index t_ v_ (.int .i64 x8_1) = Instr.index t_ v_ (.int .i64 5) := fun _ _ => by rw [c27]))
          (try (have c27a : ∀ (t_ : TypeId) (v_ : Value), Instr.indexAt t_ v_ (.int .i64 x8_1) = Instr.indexAt t_ v_ (.int .i64 5) := fun _ _ => by rw [c27]))
          (try (have c27j22 : ∀ (W_ : World) (v0_ v1_ v2_ v3_ v4_ v5_ : Value), (Instr.index 22 (.agg #[v0_, v1_, v2_, v3_, v4_, v5_]) (.int .i64 5)).run Try.prog W_ = .ok v5_ W_ := by intros; kernel_rfl))
          (try (have c27j49 : ∀ (W_ : World) (v0_ v1_ v2_ v3_ v4_ v5_ v6_ v7_ : Value), (Instr.index 49 (.agg #[v0_, v1_, v2_, v3_, v4_, v5_, v6_, v7_]) (.int .i64 5)).run Try.prog W_ = .ok v5_ W_ := by intros; kernel_rfl))
          have c27b0 : (x8_1 == (5 : Int)) = true := beq_iff_eq.mpr c27
          have c27b1 : (x8_1 != (5 : Int)) = false := bne_eq_false_iff_eq.mpr c27
          clear c27
          by_cases c28 : t229 = 0
          ·rw [if_pos c28] at H
           have c28b0 : (t229 == 0) = true := beq_iff_eq.mpr c28
           have c28b1 : (t229 != 0) = false := bne_eq_false_iff_eq.mpr c28
           clear c28
           have H' := Aside0.mk H
           clear H
           go_wp2
           go_roundg k1
           case measure => have := HK1.out; omega
           case rel => exact ⟨(x3_1), (wrap64 (x8_1 + 1)), (by first | rfl | (simp; done) | (simp [*]; done) | (have hz_ := c27z.out; congr 1; unfold wrap64; omega)), H', ⟨by have := HK1.out; omega⟩, ⟨by (with_reducible repeat (first | apply Kd.R_alloc | apply Kd.R_drewN | apply Kd.R_drew)); exact HO_3.out⟩, ⟨by (with_reducible repeat (first | refine blk_drewN ?_ _ | refine blk_drew ?_ | refine blk_alloc ?_ _)); exact BK223.out⟩, ⟨by repeat (first | (with_reducible first | exact HB.out | apply below_alloc | apply pw_below_drewN | apply below_drew1 | refine below_set ?_ GE223.out) | exact HB.out)⟩⟩
          ·rw [if_neg c28] at H
           have c28b0 : (t229 == 0) = false := beq_eq_false_iff_ne.mpr c28
           have c28b1 : (t229 != 0) = true := bne_iff_ne.mpr c28
           by_cases c29 : x3_1.length < 17592186044416
           ·rw [if_pos c29] at H
            have LMc29 := Aside0.mk c29
            clear c29
            obtain ⟨y247, hy247⟩ : ∃ y_ : List Int, y_ = (x3_1 ++ [t229]) := ⟨_, rfl⟩
            replace H : (inode_Names.l0 k1 y247 (wrap64 (x8_1 + 1)) t224 t225 t226 t227 t228 t229 t230 t231) = some r := by first | (rw [hy247]; with_reducible exact H) | (have H2_ := (Option.bind_some _ _).symm.trans H; rw [hy247]; with_reducible exact H2_) | (have H2_ := (Option.bind_some _ _).symm.trans H; with_reducible exact H2_) | with_reducible exact H | (rw [hy247]; exact H) | exact H
            have Ny247 := Aside0.mk hy247
            clear hy247
            have H' := Aside0.mk H
            clear H
            go_wp2_with (first | ((with_reducible refine gate_builtin (b := .append) (xs := #[.tmp 13, .tmp 15]) rfl ?_); at_builtin; refine Kd.R_append (Kd.int .i64) (w0 := w) w.heap.size rfl (.tmp 13) (.tmp 15) 44 3 (.int .i64 0) 8 rfl Try.underlying44 info3 rfl (by decide) (by omega) u3 x3_1 t229 [.int .i64 t229] (fun _ => True) (fun _ => False) rfl rfl ?aP (fun _ hk => hk.elim) ?aF ?aO ?aB ?aS ?aL ?_; (case aP => exact rfl); (case aB => exact (by repeat (first | (with_reducible first | exact HB.out | apply below_alloc | apply pw_below_drewN | apply below_drew1 | refine below_set ?_ GE223.out) | exact HB.out))); (case aF => exact (fun _ _ => trivial)); (case aO => exact (by (with_reducible repeat (first | apply Kd.R_alloc | apply Kd.R_drewN | apply Kd.R_drew)); exact HO_3.out)); (case aS => exact (below_size (by repeat (first | (with_reducible first | exact HB.out | apply below_alloc | apply pw_below_drewN | apply below_drew1 | refine below_set ?_ GE223.out) | exact HB.out)))); (case aL => have := LMc29.out; omega); intro v248 w30 ho hb hg hat; rw [← Ny247.out] at ho; have n0_ := Aside0.mk (blk_grown (g := gb223) (o := .cells #[.int .i64 a0_0, .int .i64 a0_1, .int .i64 a0_2, .int .i64 a0_3, .int .i64 a0_4, .int .i64 a0_5, .int .i64 a0_6, .int .i64 a0_7, .int .i64 a0_8, .int .i64 a0_9, .int .i64 a0_10, .int .i64 a0_11] 24 (0, 0)) (by (with_reducible repeat (first | refine blk_drewN ?_ _ | refine blk_drew ?_ | refine blk_alloc ?_ _)); exact BK223.out) hg (Kd.R_ne HO_3.out BK223.out (by decide))); have n1_ := Aside0.mk (hb); have n2_ := Aside0.mk (ho); clear BK223; clear HB; clear HO_3; have BK223 := n0_; have HB := n1_; have HO249 := n2_; clear n0_ n1_ n2_; clear ho hb hg hat))
            go_roundg k1
            case measure => have := HK1.out; omega
            case rel => exact ⟨(y247), (wrap64 (x8_1 + 1)), (by first | rfl | (simp; done) | (simp [*]; done) | (have hz_ := c27z.out; congr 1; unfold wrap64; omega)), H', ⟨by have := HK1.out; omega⟩, ⟨by (with_reducible repeat (first | apply Kd.R_alloc | apply Kd.R_drewN | apply Kd.R_drew)); exact HO249.out⟩, ⟨by (with_reducible repeat (first | refine blk_drewN ?_ _ | refine blk_drew ?_ | refine blk_alloc ?_ _)); exact BK223.out⟩, ⟨by repeat (first | (with_reducible first | exact HB.out | apply below_alloc | apply pw_below_drewN | apply below_drew1 | refine below_set ?_ GE223.out) | exact HB.out)⟩⟩
           ·rw [if_neg c29] at H
            exact absurd H (by simp)
         ·rw [if_neg c27] at H
          have c27b0 : (x8_1 == (5 : Int)) = false := beq_eq_false_iff_ne.mpr c27
          have c27b1 : (x8_1 != (5 : Int)) = true := bne_iff_ne.mpr c27
          by_cases c31 : x8_1 = (6 : Int)
          ·rw [if_pos c31] at H
           have c31z := Aside0.mk c31
           (try (have c31i : ∀ (t_ : TypeId) (v_ : Value), Instr.index t_ v_ (.int .i64 x8_1) = Instr.index t_ v_ (.int .i64 6) := fun _ _ => by rw [c31]))
           (try (have c31a : ∀ (t_ : TypeId) (v_ : Value), Instr.indexAt t_ v_ (.int .i64 x8_1) = Instr.indexAt t_ v_ (.int .i64 6) := fun _ _ => by rw [c31]))
           (try (have c31j49 : ∀ (W_ : World) (v0_ v1_ v2_ v3_ v4_ v5_ v6_ v7_ : Value), (Instr.index 49 (.agg #[v0_, v1_, v2_, v3_, v4_, v5_, v6_, v7_]) (.int .i64 6)).run Try.prog W_ = .ok v6_ W_ := by intros; kernel_rfl))
           have c31b0 : (x8_1 == (6 : Int)) = true := beq_iff_eq.mpr c31
           have c31b1 : (x8_1 != (6 : Int)) = false := bne_eq_false_iff_eq.mpr c31
           clear c31
           by_cases c32 : t230 = 0
           ·rw [if_pos c32] at H
            have c32b0 : (t230 == 0) = true := beq_iff_eq.mpr c32
            have c32b1 : (t230 != 0) = false := bne_eq_false_iff_eq.mpr c32
            clear c32
            have H' := Aside0.mk H
            clear H
            go_wp2
            go_roundg k1
            case measure => have := HK1.out; omega
            case rel => exact ⟨(x3_1), (wrap64 (x8_1 + 1)), (by first | rfl | (simp; done) | (simp [*]; done) | (have hz_ := c31z.out; congr 1; unfold wrap64; omega)), H', ⟨by have := HK1.out; omega⟩, ⟨by (with_reducible repeat (first | apply Kd.R_alloc | apply Kd.R_drewN | apply Kd.R_drew)); exact HO_3.out⟩, ⟨by (with_reducible repeat (first | refine blk_drewN ?_ _ | refine blk_drew ?_ | refine blk_alloc ?_ _)); exact BK223.out⟩, ⟨by repeat (first | (with_reducible first | exact HB.out | apply below_alloc | apply pw_below_drewN | apply below_drew1 | refine below_set ?_ GE223.out) | exact HB.out)⟩⟩
           ·rw [if_neg c32] at H
            have c32b0 : (t230 == 0) = false := beq_eq_false_iff_ne.mpr c32
            have c32b1 : (t230 != 0) = true := bne_iff_ne.mpr c32
            by_cases c33 : x3_1.length < 17592186044416
            ·rw [if_pos c33] at H
             have LMc33 := Aside0.mk c33
             clear c33
             obtain ⟨y250, hy250⟩ : ∃ y_ : List Int, y_ = (x3_1 ++ [t230]) := ⟨_, rfl⟩
             replace H : (inode_Names.l0 k1 y250 (wrap64 (x8_1 + 1)) t224 t225 t226 t227 t228 t229 t230 t231) = some r := by first | (rw [hy250]; with_reducible exact H) | (have H2_ := (Option.bind_some _ _).symm.trans H; rw [hy250]; with_reducible exact H2_) | (have H2_ := (Option.bind_some _ _).symm.trans H; with_reducible exact H2_) | with_reducible exact H | (rw [hy250]; exact H) | exact H
             have Ny250 := Aside0.mk hy250
             clear hy250
             have H' := Aside0.mk H
             clear H
             go_wp2_with (first | ((with_reducible refine gate_builtin (b := .append) (xs := #[.tmp 13, .tmp 15]) rfl ?_); at_builtin; refine Kd.R_append (Kd.int .i64) (w0 := w) w.heap.size rfl (.tmp 13) (.tmp 15) 44 3 (.int .i64 0) 8 rfl Try.underlying44 info3 rfl (by decide) (by omega) u3 x3_1 t230 [.int .i64 t230] (fun _ => True) (fun _ => False) rfl rfl ?aP (fun _ hk => hk.elim) ?aF ?aO ?aB ?aS ?aL ?_; (case aP => exact rfl); (case aB => exact (by repeat (first | (with_reducible first | exact HB.out | apply below_alloc | apply pw_below_drewN | apply below_drew1 | refine below_set ?_ GE223.out) | exact HB.out))); (case aF => exact (fun _ _ => trivial)); (case aO => exact (by (with_reducible repeat (first | apply Kd.R_alloc | apply Kd.R_drewN | apply Kd.R_drew)); exact HO_3.out)); (case aS => exact (below_size (by repeat (first | (with_reducible first | exact HB.out | apply below_alloc | apply pw_below_drewN | apply below_drew1 | refine below_set ?_ GE223.out) | exact HB.out)))); (case aL => have := LMc33.out; omega); intro v251 w34 ho hb hg hat; rw [← Ny250.out] at ho; have n0_ := Aside0.mk (blk_grown (g := gb223) (o := .cells #[.int .i64 a0_0, .int .i64 a0_1, .int .i64 a0_2, .int .i64 a0_3, .int .i64 a0_4, .int .i64 a0_5, .int .i64 a0_6, .int .i64 a0_7, .int .i64 a0_8, .int .i64 a0_9, .int .i64 a0_10, .int .i64 a0_11] 24 (0, 0)) (by (with_reducible repeat (first | refine blk_drewN ?_ _ | refine blk_drew ?_ | refine blk_alloc ?_ _)); exact BK223.out) hg (Kd.R_ne HO_3.out BK223.out (by decide))); have n1_ := Aside0.mk (hb); have n2_ := Aside0.mk (ho); clear BK223; clear HB; clear HO_3; have BK223 := n0_; have HB := n1_; have HO252 := n2_; clear n0_ n1_ n2_; clear ho hb hg hat))
             go_roundg k1
             case measure => have := HK1.out; omega
             case rel => exact ⟨(y250), (wrap64 (x8_1 + 1)), (by first | rfl | (simp; done) | (simp [*]; done) | (have hz_ := c31z.out; congr 1; unfold wrap64; omega)), H', ⟨by have := HK1.out; omega⟩, ⟨by (with_reducible repeat (first | apply Kd.R_alloc | apply Kd.R_drewN | apply Kd.R_drew)); exact HO252.out⟩, ⟨by (with_reducible repeat (first | refine blk_drewN ?_ _ | refine blk_drew ?_ | refine blk_alloc ?_ _)); exact BK223.out⟩, ⟨by repeat (first | (with_reducible first | exact HB.out | apply below_alloc | apply pw_below_drewN | apply below_drew1 | refine below_set ?_ GE223.out) | exact HB.out)⟩⟩
            ·rw [if_neg c33] at H
             exact absurd H (by simp)
          ·rw [if_neg c31] at H
           have c31b0 : (x8_1 == (6 : Int)) = false := beq_eq_false_iff_ne.mpr c31
           have c31b1 : (x8_1 != (6 : Int)) = true := bne_iff_ne.mpr c31
           by_cases c35 : x8_1 = (7 : Int)
           ·rw [if_pos c35] at H
            have c35z := Aside0.mk c35
            (try (have c35i : ∀ (t_ : TypeId) (v_ : Value), Instr.index t_ v_ (.int .i64 x8_1) = Instr.index t_ v_ (.int .i64 7) := fun _ _ => by rw [c35]))
            (try (have c35a : ∀ (t_ : TypeId) (v_ : Value), Instr.indexAt t_ v_ (.int .i64 x8_1) = Instr.indexAt t_ v_ (.int .i64 7) := fun _ _ => by rw [c35]))
            (try (have c35j49 : ∀ (W_ : World) (v0_ v1_ v2_ v3_ v4_ v5_ v6_ v7_ : Value), (Instr.index 49 (.agg #[v0_, v1_, v2_, v3_, v4_, v5_, v6_, v7_]) (.int .i64 7)).run Try.prog W_ = .ok v7_ W_ := by intros; kernel_rfl))
            have c35b0 : (x8_1 == (7 : Int)) = true := beq_iff_eq.mpr c35
            have c35b1 : (x8_1 != (7 : Int)) = false := bne_eq_false_iff_eq.mpr c35
            clear c35
            by_cases c36 : t231 = 0
            ·rw [if_pos c36] at H
             have c36b0 : (t231 == 0) = true := beq_iff_eq.mpr c36
             have c36b1 : (t231 != 0) = false := bne_eq_false_iff_eq.mpr c36
             clear c36
             have H' := Aside0.mk H
             clear H
             go_wp2
             go_roundg k1
             case measure => have := HK1.out; omega
             case rel => exact ⟨(x3_1), (wrap64 (x8_1 + 1)), (by first | rfl | (simp; done) | (simp [*]; done) | (have hz_ := c35z.out; congr 1; unfold wrap64; omega)), H', ⟨by have := HK1.out; omega⟩, ⟨by (with_reducible repeat (first | apply Kd.R_alloc | apply Kd.R_drewN | apply Kd.R_drew)); exact HO_3.out⟩, ⟨by (with_reducible repeat (first | refine blk_drewN ?_ _ | refine blk_drew ?_ | refine blk_alloc ?_ _)); exact BK223.out⟩, ⟨by repeat (first | (with_reducible first | exact HB.out | apply below_alloc | apply pw_below_drewN | apply below_drew1 | refine below_set ?_ GE223.out) | exact HB.out)⟩⟩
            ·rw [if_neg c36] at H
             have c36b0 : (t231 == 0) = false := beq_eq_false_iff_ne.mpr c36
             have c36b1 : (t231 != 0) = true := bne_iff_ne.mpr c36
             by_cases c37 : x3_1.length < 17592186044416
             ·rw [if_pos c37] at H
              have LMc37 := Aside0.mk c37
              clear c37
              obtain ⟨y253, hy253⟩ : ∃ y_ : List Int, y_ = (x3_1 ++ [t231]) := ⟨_, rfl⟩
              replace H : (inode_Names.l0 k1 y253 (wrap64 (x8_1 + 1)) t224 t225 t226 t227 t228 t229 t230 t231) = some r := by first | (rw [hy253]; with_reducible exact H) | (have H2_ := (Option.bind_some _ _).symm.trans H; rw [hy253]; with_reducible exact H2_) | (have H2_ := (Option.bind_some _ _).symm.trans H; with_reducible exact H2_) | with_reducible exact H | (rw [hy253]; exact H) | exact H
              have Ny253 := Aside0.mk hy253
              clear hy253
              have H' := Aside0.mk H
              clear H
              go_wp2_with (first | ((with_reducible refine gate_builtin (b := .append) (xs := #[.tmp 13, .tmp 15]) rfl ?_); at_builtin; refine Kd.R_append (Kd.int .i64) (w0 := w) w.heap.size rfl (.tmp 13) (.tmp 15) 44 3 (.int .i64 0) 8 rfl Try.underlying44 info3 rfl (by decide) (by omega) u3 x3_1 t231 [.int .i64 t231] (fun _ => True) (fun _ => False) rfl rfl ?aP (fun _ hk => hk.elim) ?aF ?aO ?aB ?aS ?aL ?_; (case aP => exact rfl); (case aB => exact (by repeat (first | (with_reducible first | exact HB.out | apply below_alloc | apply pw_below_drewN | apply below_drew1 | refine below_set ?_ GE223.out) | exact HB.out))); (case aF => exact (fun _ _ => trivial)); (case aO => exact (by (with_reducible repeat (first | apply Kd.R_alloc | apply Kd.R_drewN | apply Kd.R_drew)); exact HO_3.out)); (case aS => exact (below_size (by repeat (first | (with_reducible first | exact HB.out | apply below_alloc | apply pw_below_drewN | apply below_drew1 | refine below_set ?_ GE223.out) | exact HB.out)))); (case aL => have := LMc37.out; omega); intro v254 w38 ho hb hg hat; rw [← Ny253.out] at ho; have n0_ := Aside0.mk (blk_grown (g := gb223) (o := .cells #[.int .i64 a0_0, .int .i64 a0_1, .int .i64 a0_2, .int .i64 a0_3, .int .i64 a0_4, .int .i64 a0_5, .int .i64 a0_6, .int .i64 a0_7, .int .i64 a0_8, .int .i64 a0_9, .int .i64 a0_10, .int .i64 a0_11] 24 (0, 0)) (by (with_reducible repeat (first | refine blk_drewN ?_ _ | refine blk_drew ?_ | refine blk_alloc ?_ _)); exact BK223.out) hg (Kd.R_ne HO_3.out BK223.out (by decide))); have n1_ := Aside0.mk (hb); have n2_ := Aside0.mk (ho); clear BK223; clear HB; clear HO_3; have BK223 := n0_; have HB := n1_; have HO255 := n2_; clear n0_ n1_ n2_; clear ho hb hg hat))
              go_roundg k1
              case measure => have := HK1.out; omega
              case rel => exact ⟨(y253), (wrap64 (x8_1 + 1)), (by first | rfl | (simp; done) | (simp [*]; done) | (have hz_ := c35z.out; congr 1; unfold wrap64; omega)), H', ⟨by have := HK1.out; omega⟩, ⟨by (with_reducible repeat (first | apply Kd.R_alloc | apply Kd.R_drewN | apply Kd.R_drew)); exact HO255.out⟩, ⟨by (with_reducible repeat (first | refine blk_drewN ?_ _ | refine blk_drew ?_ | refine blk_alloc ?_ _)); exact BK223.out⟩, ⟨by repeat (first | (with_reducible first | exact HB.out | apply below_alloc | apply pw_below_drewN | apply below_drew1 | refine below_set ?_ GE223.out) | exact HB.out)⟩⟩
             ·rw [if_neg c37] at H
              exact absurd H (by simp)
           ·rw [if_neg c35] at H
            exact absurd H (by simp)
   ·rw [if_neg c6] at H
    have c6b0 : decide (x8_1 < 8) = false := decide_eq_false c6
    clear c6
    obtain rfl := Option.some.inj H
    go_wp2
    go_ret
    exact ⟨_, by first | rfl | (simp [errW_none, errW_some] <;> rfl) | (simp [*, errW_none, errW_some] <;> rfl), by (with_reducible repeat (first | apply Kd.R_alloc | apply Kd.R_drewN | apply Kd.R_drew)); exact HO_3.out, by repeat (first | (with_reducible first | exact HB.out | apply below_alloc | apply pw_below_drewN | apply below_drew1 | refine below_set ?_ GE223.out) | exact HB.out)⟩

/-! ### inode_may: function 34 -/
def inode_may.f (l0 : List Int) (a1 : Int) : Option (Int) := if (l0.length : Int) = 256 then (if a1 < 0 then (some 3) else (if a1 ≥ 4 then (some 3) else (some 0))) else (some 4)
set_option maxHeartbeats 8000000 in
set_option maxRecDepth 100000 in
theorem inode_may.calls (A0 : Option Addr) (c0 : Nat) (l0 : List Int) (a1 : Int) (r : Int) (w : World) (hr0 : Kd.C (Kd.int .u8) w A0 l0.length l0) (hc0 : l0.length ≤ c0) (h : inode_may.f l0 a1 = some r) :
  Calls Try.prog 34 #[.slice A0 l0.length c0, .int .i64 a1] w fun e w' => e = .returned (.int .i64 r) ∧ Drawn0 w w' := by
 have HR0 := Aside0.mk hr0
 have HC0 := Aside0.mk hc0
 clear hr0 hc0
 have H : (if (l0.length : Int) = 256 then (if a1 < 0 then (some 3) else (if a1 ≥ 4 then (some 3) else (some 0))) else (some 4)) = some r := h
 clear h
 by_cases c3 : (l0.length : Int) = 256
 ·rw [if_pos c3] at H
  have c3b0 : ((l0.length : Int) == 256) = true := beq_iff_eq.mpr c3
  have c3b1 : ((l0.length : Int) != 256) = false := bne_eq_false_iff_eq.mpr c3
  clear c3
  by_cases c4 : a1 < 0
  ·rw [if_pos c4] at H
   have c4b0 : decide (a1 < 0) = true := decide_eq_true c4
   clear c4
   obtain rfl := Option.some.inj H
   go_enter Try.func34, Try.ntmps34
   go_wp2
   go_ret
   exact ⟨by first | rfl | (simp; done) | (simp [*]; done), by repeat (first | exact Drawn0.refl _ | apply Drawn0.step)⟩
  ·rw [if_neg c4] at H
   have c4b0 : decide (a1 < 0) = false := decide_eq_false c4
   clear c4
   by_cases c5 : a1 ≥ 4
   ·rw [if_pos c5] at H
    have c5b0 : decide (4 ≤ a1) = true := decide_eq_true c5
    clear c5
    obtain rfl := Option.some.inj H
    go_enter Try.func34, Try.ntmps34
    go_wp2
    go_ret
    exact ⟨by first | rfl | (simp; done) | (simp [*]; done), by repeat (first | exact Drawn0.refl _ | apply Drawn0.step)⟩
   ·rw [if_neg c5] at H
    have c5b0 : decide (4 ≤ a1) = false := decide_eq_false c5
    clear c5
    obtain rfl := Option.some.inj H
    go_enter Try.func34, Try.ntmps34
    go_wp2
    go_ret
    exact ⟨by first | rfl | (simp; done) | (simp [*]; done), by repeat (first | exact Drawn0.refl _ | apply Drawn0.step)⟩
 ·rw [if_neg c3] at H
  have c3b0 : ((l0.length : Int) == 256) = false := beq_eq_false_iff_ne.mpr c3
  have c3b1 : ((l0.length : Int) != 256) = true := bne_iff_ne.mpr c3
  obtain rfl := Option.some.inj H
  go_enter Try.func34, Try.ntmps34
  go_wp2
  go_ret
  exact ⟨by first | rfl | (simp; done) | (simp [*]; done), by repeat (first | exact Drawn0.refl _ | apply Drawn0.step)⟩

/-! ### leveeref07_Read: function 16 -/
def leveeref07_Read.f (k : Nat) (l0 : List Int) (a1 : Int) : Option (Int × Int × Int × Int × Int × Int × Int × Int × Int × Int × Int × Int × Int) := if (l0.length : Int) = 256 then (if a1 < 0 then (some (0, 0, 0, 0, 0, 0, 0, 0, 0, 0, 0, 0, 3)) else (if a1 > 3 then (some (0, 0, 0, 0, 0, 0, 0, 0, 0, 0, 0, 0, 3)) else (if 0 ≤ (wrap64 (64 * a1)) then (if (wrap64 (64 * a1)) ≤ (wrap64 ((wrap64 (64 * a1)) + 64)) then (if (wrap64 ((wrap64 (64 * a1)) + 64)) ≤ (l0.length : Int) then ((leveeref07_Get.f k ((l0.take ((wrap64 ((wrap64 (64 * a1)) + 64)) : Int).toNat).drop ((wrap64 (64 * a1)) : Int).toNat)).bind fun bt363 => (some (bt363.1, bt363.2.1, bt363.2.2.1, bt363.2.2.2.1, bt363.2.2.2.2.1, bt363.2.2.2.2.2.1, bt363.2.2.2.2.2.2.1, bt363.2.2.2.2.2.2.2.1, bt363.2.2.2.2.2.2.2.2.1, bt363.2.2.2.2.2.2.2.2.2.1, bt363.2.2.2.2.2.2.2.2.2.2.1, bt363.2.2.2.2.2.2.2.2.2.2.2.1, bt363.2.2.2.2.2.2.2.2.2.2.2.2))) else (none)) else (none)) else (none)))) else (some (0, 0, 0, 0, 0, 0, 0, 0, 0, 0, 0, 0, 4))
theorem leveeref07_Read.mono : ∀ a0 a1 k, LeO (leveeref07_Read.f k a0 a1) (leveeref07_Read.f (k + 1) a0 a1) := by
 intro a0 a1 k
 unfold leveeref07_Read.f
 repeat' first
   | (with_reducible exact leveeref07_Get.mono _ _)
   | (with_reducible exact LeO.refl _)
   | (with_reducible exact LeO.none _)
   | (with_reducible refine LeO.ite ?_ ?_)
   | (with_reducible refine LeO.bind ?_ (fun _ => ?_))
   | exact leveeref07_Get.mono _ _
   | exact LeO.none _
   | refine LeO.ite ?_ ?_
   | refine LeO.bind ?_ (fun _ => ?_)
set_option maxHeartbeats 8000000 in
set_option maxRecDepth 100000 in
theorem leveeref07_Read.calls (k : Nat) (A0 : Option Addr) (c0 : Nat) (l0 : List Int) (a1 : Int) (r1 : Int) (r2 : Int) (r3 : Int) (r4 : Int) (r5 : Int) (r6 : Int) (r7 : Int) (r8 : Int) (r9 : Int) (r10 : Int) (r11 : Int) (r12 : Int) (r13 : Int) (w : World) (hr0 : Kd.C (Kd.int .u8) w A0 l0.length l0) (hc0 : l0.length ≤ c0) (h : leveeref07_Read.f k l0 a1 = some (r1, r2, r3, r4, r5, r6, r7, r8, r9, r10, r11, r12, r13)) :
  Calls Try.prog 16 #[.slice A0 l0.length c0, .int .i64 a1] w fun e w' => e = .returned (.tuple #[.agg #[.int .i64 r1, .int .i64 r2, .int .i64 r3, .int .i64 r4, .int .i64 r5, .int .i64 r6, .int .i64 r7, .int .i64 r8, .int .i64 r9, .int .i64 r10, .int .i64 r11, .int .i64 r12], .int .i64 r13]) ∧ Below w.heap.size w w' := by
 have hu24 := Try.underlying24
 have HR0 := Aside0.mk hr0
 have HC0 := Aside0.mk hc0
 clear hr0 hc0
 have HB := Aside0.mk (Below.refl w.heap.size w)
 have H : (if (l0.length : Int) = 256 then (if a1 < 0 then (some (0, 0, 0, 0, 0, 0, 0, 0, 0, 0, 0, 0, 3)) else (if a1 > 3 then (some (0, 0, 0, 0, 0, 0, 0, 0, 0, 0, 0, 0, 3)) else (if 0 ≤ (wrap64 (64 * a1)) then (if (wrap64 (64 * a1)) ≤ (wrap64 ((wrap64 (64 * a1)) + 64)) then (if (wrap64 ((wrap64 (64 * a1)) + 64)) ≤ (l0.length : Int) then ((leveeref07_Get.f k ((l0.take ((wrap64 ((wrap64 (64 * a1)) + 64)) : Int).toNat).drop ((wrap64 (64 * a1)) : Int).toNat)).bind fun bt363 => (some (bt363.1, bt363.2.1, bt363.2.2.1, bt363.2.2.2.1, bt363.2.2.2.2.1, bt363.2.2.2.2.2.1, bt363.2.2.2.2.2.2.1, bt363.2.2.2.2.2.2.2.1, bt363.2.2.2.2.2.2.2.2.1, bt363.2.2.2.2.2.2.2.2.2.1, bt363.2.2.2.2.2.2.2.2.2.2.1, bt363.2.2.2.2.2.2.2.2.2.2.2.1, bt363.2.2.2.2.2.2.2.2.2.2.2.2))) else (none)) else (none)) else (none)))) else (some (0, 0, 0, 0, 0, 0, 0, 0, 0, 0, 0, 0, 4))) = some (r1, r2, r3, r4, r5, r6, r7, r8, r9, r10, r11, r12, r13) := h
 clear h
 by_cases c3 : (l0.length : Int) = 256
 ·rw [if_pos c3] at H
  have c3b0 : ((l0.length : Int) == 256) = true := beq_iff_eq.mpr c3
  have c3b1 : ((l0.length : Int) != 256) = false := bne_eq_false_iff_eq.mpr c3
  clear c3
  by_cases c4 : a1 < 0
  ·rw [if_pos c4] at H
   have c4b0 : decide (a1 < 0) = true := decide_eq_true c4
   clear c4
   simp only [Option.some.injEq, Prod.mk.injEq] at H
   obtain ⟨rfl, rfl, rfl, rfl, rfl, rfl, rfl, rfl, rfl, rfl, rfl, rfl, rfl⟩ := H
   go_enter Try.func16, Try.ntmps16
   go_wp2_with (first | ((with_reducible refine gate_dst (N := 4) rfl ?_); refine box_event ?hg (N := 4) ?hd (cs := #[.int .i64 0, .int .i64 0, .int .i64 0, .int .i64 0, .int .i64 0, .int .i64 0, .int .i64 0, .int .i64 0, .int .i64 0, .int .i64 0, .int .i64 0, .int .i64 0]) (t := 24) ?hr ?_; (case hd => rfl); (case hg => rfl); (case hr => first | (go_simp; done) | (go_simp; rfl)); intro gb361 hg w5 hbox hb; have n0_ := Aside0.mk (below_step (by repeat (first | (with_reducible first | exact HB.out | apply below_alloc | apply pw_below_drewN | apply below_drew1) | exact HB.out)) hb); have n1_ := Aside0.mk (hbox); have n2_ := Aside0.mk ((by rw [hg]; exact (below_size (by repeat (first | (with_reducible first | exact HB.out | apply below_alloc | apply pw_below_drewN | apply below_drew1) | exact HB.out))) : w.heap.size ≤ gb361)); have n3_ := Aside0.mk ((by rw [hg]; exact (below_size (by repeat (first | (with_reducible first | exact HB.out | apply below_alloc | apply pw_below_drewN | apply below_drew1) | exact HB.out))) : w.heap.size ≤ gb361)); clear HB; have HB := n0_; have BK361 := n1_; have GW361 := n2_; have GE361 := n3_; clear n0_ n1_ n2_ n3_; clear hb hbox hg; have q_ := cells12 BK361.out; have hcz6_0 := q_.c0; have hcz6_1 := q_.c1; have hcz6_2 := q_.c2; have hcz6_3 := q_.c3; have hcz6_4 := q_.c4; have hcz6_5 := q_.c5; have hcz6_6 := q_.c6; have hcz6_7 := q_.c7; have hcz6_8 := q_.c8; have hcz6_9 := q_.c9; have hcz6_10 := q_.c10; have hcz6_11 := q_.c11; have hfz6_0 := q_.f0; have hfz6_1 := q_.f1; have hfz6_2 := q_.f2; have hfz6_3 := q_.f3; have hfz6_4 := q_.f4; have hfz6_5 := q_.f5; have hfz6_6 := q_.f6; have hfz6_7 := q_.f7; have hfz6_8 := q_.f8; have hfz6_9 := q_.f9; have hfz6_10 := q_.f10; have hfz6_11 := q_.f11; clear q_))
   refine bodyPost_ret (results_ct rfl _ _ gb361 24 #[.int .i64 0, .int .i64 0, .int .i64 0, .int .i64 0, .int .i64 0, .int .i64 0, .int .i64 0, .int .i64 0, .int .i64 0, .int .i64 0, .int .i64 0, .int .i64 0] (0, 0) _ rfl (by (with_reducible repeat (first | refine blk_drewN ?_ _ | refine blk_drew ?_ | refine blk_alloc ?_ _)); refine blk_put12 (.int .i64 0) (.int .i64 0) (.int .i64 0) (.int .i64 0) (.int .i64 0) (.int .i64 0) (.int .i64 0) (.int .i64 0) (.int .i64 0) (.int .i64 0) (.int .i64 0) (.int .i64 0) ?_; (with_reducible repeat (first | refine blk_drewN ?_ _ | refine blk_drew ?_ | refine blk_alloc ?_ _)); exact BK361.out) Try.underlying24 rfl (by kernel_rfl)) rfl ?_
   exact ⟨by first | rfl | (simp [errW_none, errW_some] <;> rfl) | (simp [*, errW_none, errW_some] <;> rfl), by repeat (first | (with_reducible first | exact HB.out | apply below_alloc | apply pw_below_drewN | apply below_drew1 | refine below_set ?_ GE361.out) | exact HB.out)⟩
  ·rw [if_neg c4] at H
   have c4b0 : decide (a1 < 0) = false := decide_eq_false c4
   clear c4
   by_cases c7 : a1 > 3
   ·rw [if_pos c7] at H
    have c7b0 : decide (3 < a1) = true := decide_eq_true c7
    clear c7
    simp only [Option.some.injEq, Prod.mk.injEq] at H
    obtain ⟨rfl, rfl, rfl, rfl, rfl, rfl, rfl, rfl, rfl, rfl, rfl, rfl, rfl⟩ := H
    go_enter Try.func16, Try.ntmps16
    go_wp2_with (first | ((with_reducible refine gate_dst (N := 4) rfl ?_); refine box_event ?hg (N := 4) ?hd (cs := #[.int .i64 0, .int .i64 0, .int .i64 0, .int .i64 0, .int .i64 0, .int .i64 0, .int .i64 0, .int .i64 0, .int .i64 0, .int .i64 0, .int .i64 0, .int .i64 0]) (t := 24) ?hr ?_; (case hd => rfl); (case hg => rfl); (case hr => first | (go_simp; done) | (go_simp; rfl)); intro gb361 hg w8 hbox hb; have n0_ := Aside0.mk (below_step (by repeat (first | (with_reducible first | exact HB.out | apply below_alloc | apply pw_below_drewN | apply below_drew1) | exact HB.out)) hb); have n1_ := Aside0.mk (hbox); have n2_ := Aside0.mk ((by rw [hg]; exact (below_size (by repeat (first | (with_reducible first | exact HB.out | apply below_alloc | apply pw_below_drewN | apply below_drew1) | exact HB.out))) : w.heap.size ≤ gb361)); have n3_ := Aside0.mk ((by rw [hg]; exact (below_size (by repeat (first | (with_reducible first | exact HB.out | apply below_alloc | apply pw_below_drewN | apply below_drew1) | exact HB.out))) : w.heap.size ≤ gb361)); clear HB; have HB := n0_; have BK361 := n1_; have GW361 := n2_; have GE361 := n3_; clear n0_ n1_ n2_ n3_; clear hb hbox hg; have q_ := cells12 BK361.out; have hcz9_0 := q_.c0; have hcz9_1 := q_.c1; have hcz9_2 := q_.c2; have hcz9_3 := q_.c3; have hcz9_4 := q_.c4; have hcz9_5 := q_.c5; have hcz9_6 := q_.c6; have hcz9_7 := q_.c7; have hcz9_8 := q_.c8; have hcz9_9 := q_.c9; have hcz9_10 := q_.c10; have hcz9_11 := q_.c11; have hfz9_0 := q_.f0; have hfz9_1 := q_.f1; have hfz9_2 := q_.f2; have hfz9_3 := q_.f3; have hfz9_4 := q_.f4; have hfz9_5 := q_.f5; have hfz9_6 := q_.f6; have hfz9_7 := q_.f7; have hfz9_8 := q_.f8; have hfz9_9 := q_.f9; have hfz9_10 := q_.f10; have hfz9_11 := q_.f11; clear q_))
    refine bodyPost_ret (results_ct rfl _ _ gb361 24 #[.int .i64 0, .int .i64 0, .int .i64 0, .int .i64 0, .int .i64 0, .int .i64 0, .int .i64 0, .int .i64 0, .int .i64 0, .int .i64 0, .int .i64 0, .int .i64 0] (0, 0) _ rfl (by (with_reducible repeat (first | refine blk_drewN ?_ _ | refine blk_drew ?_ | refine blk_alloc ?_ _)); refine blk_put12 (.int .i64 0) (.int .i64 0) (.int .i64 0) (.int .i64 0) (.int .i64 0) (.int .i64 0) (.int .i64 0) (.int .i64 0) (.int .i64 0) (.int .i64 0) (.int .i64 0) (.int .i64 0) ?_; (with_reducible repeat (first | refine blk_drewN ?_ _ | refine blk_drew ?_ | refine blk_alloc ?_ _)); exact BK361.out) Try.underlying24 rfl (by kernel_rfl)) rfl ?_
    exact ⟨by first | rfl | (simp [errW_none, errW_some] <;> rfl) | (simp [*, errW_none, errW_some] <;> rfl), by repeat (first | (with_reducible first | exact HB.out | apply below_alloc | apply pw_below_drewN | apply below_drew1 | refine below_set ?_ GE361.out) | exact HB.out)⟩
   ·rw [if_neg c7] at H
    have c7b0 : decide (3 < a1) = false := decide_eq_false c7
    clear c7
    obtain ⟨ji10, hji10⟩ : ∃ j_ : Int, (wrap64 (64 * a1)) = j_ := ⟨_, rfl⟩
    replace H : (if 0 ≤ (ji10) then (if (ji10) ≤ (wrap64 ((ji10) + 64)) then (if (wrap64 ((ji10) + 64)) ≤ (l0.length : Int) then ((leveeref07_Get.f k ((l0.take ((wrap64 ((ji10) + 64)) : Int).toNat).drop ((ji10) : Int).toNat)).bind fun bt363 => (some (bt363.1, bt363.2.1, bt363.2.2.1, bt363.2.2.2.1, bt363.2.2.2.2.1, bt363.2.2.2.2.2.1, bt363.2.2.2.2.2.2.1, bt363.2.2.2.2.2.2.2.1, bt363.2.2.2.2.2.2.2.2.1, bt363.2.2.2.2.2.2.2.2.2.1, bt363.2.2.2.2.2.2.2.2.2.2.1, bt363.2.2.2.2.2.2.2.2.2.2.2.1, bt363.2.2.2.2.2.2.2.2.2.2.2.2))) else (none)) else (none)) else (none)) = some (r1, r2, r3, r4, r5, r6, r7, r8, r9, r10, r11, r12, r13) := by first | (rw [hji10] at H; exact H) | (simp only [hji10] at H ⊢; exact H)
    have hji10w : (IntKind.i64.wrap (64 * a1)) = ji10 := (i64_w _).trans hji10
    by_cases c11 : 0 ≤ (ji10)
    ·rw [if_pos c11] at H
     have c11b0 := eq_true c11
     have c11b1 : decide (0 ≤ (ji10)) = true := decide_eq_true c11
     clear c11
     by_cases c12 : (ji10) ≤ (wrap64 ((ji10) + 64))
     ·rw [if_pos c12] at H
      have c12b0 := eq_true c12
      have c12b1 : decide ((ji10) ≤ (wrap64 ((ji10) + 64))) = true := decide_eq_true c12
      by_cases c13 : (wrap64 ((ji10) + 64)) ≤ (l0.length : Int)
      ·rw [if_pos c13] at H
       have c13b0 := eq_true c13
       have c13b1 : decide ((wrap64 ((ji10) + 64)) ≤ (l0.length : Int)) = true := decide_eq_true c13
       replace H := Option.bind_eq_some_iff.mp H
       obtain ⟨⟨t363, t364, t365, t366, t367, t368, t369, t370, t371, t372, t373, t374, t375⟩, A140, H⟩ := H
       replace H : (some (t363, t364, t365, t366, t367, t368, t369, t370, t371, t372, t373, t374, t375)) = some (r1, r2, r3, r4, r5, r6, r7, r8, r9, r10, r11, r12, r13) := H
       have A14 := Aside0.mk A140
       clear A140
       simp only [Option.some.injEq, Prod.mk.injEq] at H
       obtain ⟨rfl, rfl, rfl, rfl, rfl, rfl, rfl, rfl, rfl, rfl, rfl, rfl, rfl⟩ := H
       go_enter Try.func16, Try.ntmps16
       go_wp2_with (first | ((with_reducible refine gate_dst (N := 4) rfl ?_); refine box_event ?hg (N := 4) ?hd (cs := #[.int .i64 0, .int .i64 0, .int .i64 0, .int .i64 0, .int .i64 0, .int .i64 0, .int .i64 0, .int .i64 0, .int .i64 0, .int .i64 0, .int .i64 0, .int .i64 0]) (t := 24) ?hr ?_; (case hd => rfl); (case hg => rfl); (case hr => first | (go_simp; done) | (go_simp; rfl)); intro gb361 hg w15 hbox hb; have n0_ := Aside0.mk (below_step (by repeat (first | (with_reducible first | exact HB.out | apply below_alloc | apply pw_below_drewN | apply below_drew1) | exact HB.out)) hb); have n1_ := Aside0.mk (hbox); have n2_ := Aside0.mk ((by rw [hg]; exact (below_size (by repeat (first | (with_reducible first | exact HB.out | apply below_alloc | apply pw_below_drewN | apply below_drew1) | exact HB.out))) : w.heap.size ≤ gb361)); have n3_ := Aside0.mk ((by rw [hg]; exact (below_size (by repeat (first | (with_reducible first | exact HB.out | apply below_alloc | apply pw_below_drewN | apply below_drew1) | exact HB.out))) : w.heap.size ≤ gb361)); clear HB; have HB := n0_; have BK361 := n1_; have GW361 := n2_; have GE361 := n3_; clear n0_ n1_ n2_ n3_; clear hb hbox hg; obtain ⟨i016, hi016, _, hsz16, _⟩ := info_parts info5; obtain ⟨A16, hcut16, hA16, hC16⟩ := print_mid_of (P := Try.prog) (Value.int .u8) 0 25 5 .i64 .i64 Try.underlying25 hi016 hsz16 A0 c0 l0 (ji10) (wrap64 ((ji10) + 64)) (of_decide_eq_true (by first | (with_reducible assumption) | assumption)) (by first | omega | exact of_decide_eq_true (by first | (with_reducible assumption) | assumption)) (of_decide_eq_true (by first | (with_reducible assumption) | assumption)) HC0.out; have HR362 := Aside0.mk (Kd.C_of_reads (h1 := fun _ => rfl) (hA16 _ (Kd.reads_of_C HR0.out))); have HC362 := Aside0.mk hC16; clear hA16 hC16 hi016 hsz16) | ((with_reducible refine gate_callee (f := 10) rfl ?_); refine goesL_ (some 24) rfl rfl Try.func10 (by kernel_rfl) rfl #[.slice A16 ((l0.take ((wrap64 ((ji10) + 64)) : Int).toNat).drop ((ji10) : Int).toNat).length (c0 - (ji10).toNat)] rfl (by (try simp only [List.map_toArray, List.map_cons, List.map_nil]); first | done | (rw [show ((l0.take ((wrap64 ((ji10) + 64)) : Int).toNat).drop ((ji10) : Int).toNat).length = ((wrap64 ((ji10) + 64)).toNat - (ji10).toNat) from (by rw [List.length_drop, List.length_take]; have h_ : ((wrap64 ((ji10) + 64)) : Int) ≤ (l0.length : Int) := of_decide_eq_true (by first | (with_reducible assumption) | assumption); omega)] <;> rfl) | (simp only [hji10]; rfl) | rfl | (simp only [List.length_drop, List.length_take]; rfl)) ?_; (with_reducible refine (leveeref07_Get.calls k _ _ ((l0.take ((wrap64 ((ji10) + 64)) : Int).toNat).drop ((ji10) : Int).toNat) t363 t364 t365 t366 t367 t368 t369 t370 t371 t372 t373 t374 t375 _ ?side1 ?side2 A14.out).mono ?_); (case side1 => repeat (first | exact (Kd.C_below HR362.out HB.out) | (with_reducible refine Kd.C_alloc ?_ _) | (with_reducible refine Kd.C_drewN ?_ _) | (with_reducible refine Kd.C_drew ?_))); (case side2 => exact HC362.out); rintro e w17 ⟨rfl, hb⟩; refine ⟨_, rfl, ?_⟩; have n0_ := Aside0.mk (blk_below (g := gb361) (o := .cells #[.int .i64 0, .int .i64 0, .int .i64 0, .int .i64 0, .int .i64 0, .int .i64 0, .int .i64 0, .int .i64 0, .int .i64 0, .int .i64 0, .int .i64 0, .int .i64 0] 24 (0, 0)) (by (with_reducible repeat (first | refine blk_drewN ?_ _ | refine blk_drew ?_ | refine blk_alloc ?_ _)); exact BK361.out) hb); have n1_ := Aside0.mk (below_step (by repeat (first | (with_reducible first | exact HB.out | apply below_alloc | apply pw_below_drewN | apply below_drew1 | refine below_set ?_ GE361.out) | exact HB.out)) hb); clear BK361; clear HB; have BK361 := n0_; have HB := n1_; clear n0_ n1_; (try clear hb); (try clear hb2); (try clear hk); (try clear hi); have q_ := cells12 BK361.out; have hcz18_0 := q_.c0; have hcz18_1 := q_.c1; have hcz18_2 := q_.c2; have hcz18_3 := q_.c3; have hcz18_4 := q_.c4; have hcz18_5 := q_.c5; have hcz18_6 := q_.c6; have hcz18_7 := q_.c7; have hcz18_8 := q_.c8; have hcz18_9 := q_.c9; have hcz18_10 := q_.c10; have hcz18_11 := q_.c11; have hfz18_0 := q_.f0; have hfz18_1 := q_.f1; have hfz18_2 := q_.f2; have hfz18_3 := q_.f3; have hfz18_4 := q_.f4; have hfz18_5 := q_.f5; have hfz18_6 := q_.f6; have hfz18_7 := q_.f7; have hfz18_8 := q_.f8; have hfz18_9 := q_.f9; have hfz18_10 := q_.f10; have hfz18_11 := q_.f11; clear q_))
       refine bodyPost_ret (results_ct rfl _ _ gb361 24 #[.int .i64 t363, .int .i64 t364, .int .i64 t365, .int .i64 t366, .int .i64 t367, .int .i64 t368, .int .i64 t369, .int .i64 t370, .int .i64 t371, .int .i64 t372, .int .i64 t373, .int .i64 t374] (0, 0) _ rfl (by (with_reducible repeat (first | refine blk_drewN ?_ _ | refine blk_drew ?_ | refine blk_alloc ?_ _)); refine blk_put12 (.int .i64 0) (.int .i64 0) (.int .i64 0) (.int .i64 0) (.int .i64 0) (.int .i64 0) (.int .i64 0) (.int .i64 0) (.int .i64 0) (.int .i64 0) (.int .i64 0) (.int .i64 0) ?_; (with_reducible repeat (first | refine blk_drewN ?_ _ | refine blk_drew ?_ | refine blk_alloc ?_ _)); exact BK361.out) Try.underlying24 rfl (by kernel_rfl)) rfl ?_
       exact ⟨by first | rfl | (simp [errW_none, errW_some] <;> rfl) | (simp only [← hji10]; first | rfl | (simp [errW_none, errW_some] <;> rfl)) | (simp [*, errW_none, errW_some] <;> rfl), by repeat (first | (with_reducible first | exact HB.out | apply below_alloc | apply pw_below_drewN | apply below_drew1 | refine below_set ?_ GE361.out) | exact HB.out)⟩
      ·rw [if_neg c13] at H
       exact absurd H (by simp)
     ·rw [if_neg c12] at H
      exact absurd H (by simp)
    ·rw [if_neg c11] at H
     exact absurd H (by simp)
 ·rw [if_neg c3] at H
  have c3b0 : ((l0.length : Int) == 256) = false := beq_eq_false_iff_ne.mpr c3
  have c3b1 : ((l0.length : Int) != 256) = true := bne_iff_ne.mpr c3
  simp only [Option.some.injEq, Prod.mk.injEq] at H
  obtain ⟨rfl, rfl, rfl, rfl, rfl, rfl, rfl, rfl, rfl, rfl, rfl, rfl, rfl⟩ := H
  go_enter Try.func16, Try.ntmps16
  go_wp2_with (first | ((with_reducible refine gate_dst (N := 4) rfl ?_); refine box_event ?hg (N := 4) ?hd (cs := #[.int .i64 0, .int .i64 0, .int .i64 0, .int .i64 0, .int .i64 0, .int .i64 0, .int .i64 0, .int .i64 0, .int .i64 0, .int .i64 0, .int .i64 0, .int .i64 0]) (t := 24) ?hr ?_; (case hd => rfl); (case hg => rfl); (case hr => first | (go_simp; done) | (go_simp; rfl)); intro gb361 hg w19 hbox hb; have n0_ := Aside0.mk (below_step (by repeat (first | (with_reducible first | exact HB.out | apply below_alloc | apply pw_below_drewN | apply below_drew1) | exact HB.out)) hb); have n1_ := Aside0.mk (hbox); have n2_ := Aside0.mk ((by rw [hg]; exact (below_size (by repeat (first | (with_reducible first | exact HB.out | apply below_alloc | apply pw_below_drewN | apply below_drew1) | exact HB.out))) : w.heap.size ≤ gb361)); have n3_ := Aside0.mk ((by rw [hg]; exact (below_size (by repeat (first | (with_reducible first | exact HB.out | apply below_alloc | apply pw_below_drewN | apply below_drew1) | exact HB.out))) : w.heap.size ≤ gb361)); clear HB; have HB := n0_; have BK361 := n1_; have GW361 := n2_; have GE361 := n3_; clear n0_ n1_ n2_ n3_; clear hb hbox hg; have q_ := cells12 BK361.out; have hcz20_0 := q_.c0; have hcz20_1 := q_.c1; have hcz20_2 := q_.c2; have hcz20_3 := q_.c3; have hcz20_4 := q_.c4; have hcz20_5 := q_.c5; have hcz20_6 := q_.c6; have hcz20_7 := q_.c7; have hcz20_8 := q_.c8; have hcz20_9 := q_.c9; have hcz20_10 := q_.c10; have hcz20_11 := q_.c11; have hfz20_0 := q_.f0; have hfz20_1 := q_.f1; have hfz20_2 := q_.f2; have hfz20_3 := q_.f3; have hfz20_4 := q_.f4; have hfz20_5 := q_.f5; have hfz20_6 := q_.f6; have hfz20_7 := q_.f7; have hfz20_8 := q_.f8; have hfz20_9 := q_.f9; have hfz20_10 := q_.f10; have hfz20_11 := q_.f11; clear q_))
  refine bodyPost_ret (results_ct rfl _ _ gb361 24 #[.int .i64 0, .int .i64 0, .int .i64 0, .int .i64 0, .int .i64 0, .int .i64 0, .int .i64 0, .int .i64 0, .int .i64 0, .int .i64 0, .int .i64 0, .int .i64 0] (0, 0) _ rfl (by (with_reducible repeat (first | refine blk_drewN ?_ _ | refine blk_drew ?_ | refine blk_alloc ?_ _)); refine blk_put12 (.int .i64 0) (.int .i64 0) (.int .i64 0) (.int .i64 0) (.int .i64 0) (.int .i64 0) (.int .i64 0) (.int .i64 0) (.int .i64 0) (.int .i64 0) (.int .i64 0) (.int .i64 0) ?_; (with_reducible repeat (first | refine blk_drewN ?_ _ | refine blk_drew ?_ | refine blk_alloc ?_ _)); exact BK361.out) Try.underlying24 rfl (by kernel_rfl)) rfl ?_
  exact ⟨by first | rfl | (simp [errW_none, errW_some] <;> rfl) | (simp [*, errW_none, errW_some] <;> rfl), by repeat (first | (with_reducible first | exact HB.out | apply below_alloc | apply pw_below_drewN | apply below_drew1 | refine below_set ?_ GE361.out) | exact HB.out)⟩

/-! ### num_within: function 41 -/
def num_within.f (l0 : List Int) (a1 : Int) (a2 : Int) : Option (Bool) := if a1 ≥ 0 then (if a2 ≥ 0 then (if a1 ≤ (l0.length : Int) then (some (decide (a2 ≤ (wrap64 ((l0.length : Int) - a1))))) else (some false)) else (some false)) else (some false)
set_option maxHeartbeats 8000000 in
set_option maxRecDepth 100000 in
theorem num_within.calls (A0 : Option Addr) (c0 : Nat) (l0 : List Int) (a1 : Int) (a2 : Int) (r : Bool) (w : World) (hr0 : Kd.C (Kd.int .u8) w A0 l0.length l0) (hc0 : l0.length ≤ c0) (h : num_within.f l0 a1 a2 = some r) :
  Calls Try.prog 41 #[.slice A0 l0.length c0, .int .i64 a1, .int .i64 a2] w fun e w' => e = .returned (.bool r) ∧ Drawn0 w w' := by
 have HR0 := Aside0.mk hr0
 have HC0 := Aside0.mk hc0
 clear hr0 hc0
 have H : (if a1 ≥ 0 then (if a2 ≥ 0 then (if a1 ≤ (l0.length : Int) then (some (decide (a2 ≤ (wrap64 ((l0.length : Int) - a1))))) else (some false)) else (some false)) else (some false)) = some r := h
 clear h
 by_cases c4 : a1 ≥ 0
 ·rw [if_pos c4] at H
  have c4b0 : decide (0 ≤ a1) = true := decide_eq_true c4
  clear c4
  by_cases c5 : a2 ≥ 0
  ·rw [if_pos c5] at H
   have c5b0 : decide (0 ≤ a2) = true := decide_eq_true c5
   clear c5
   by_cases c6 : a1 ≤ (l0.length : Int)
   ·rw [if_pos c6] at H
    have c6b0 : decide (a1 ≤ (l0.length : Int)) = true := decide_eq_true c6
    clear c6
    obtain rfl := Option.some.inj H
    go_enter Try.func41, Try.ntmps41
    go_wp2
    go_ret
    exact ⟨by first | rfl | (simp; done) | (simp [*]; done), by repeat (first | exact Drawn0.refl _ | apply Drawn0.step)⟩
   ·rw [if_neg c6] at H
    have c6b0 : decide (a1 ≤ (l0.length : Int)) = false := decide_eq_false c6
    clear c6
    obtain rfl := Option.some.inj H
    go_enter Try.func41, Try.ntmps41
    go_wp2
    go_ret
    exact ⟨by first | rfl | (simp; done) | (simp [*]; done), by repeat (first | exact Drawn0.refl _ | apply Drawn0.step)⟩
  ·rw [if_neg c5] at H
   have c5b0 : decide (0 ≤ a2) = false := decide_eq_false c5
   clear c5
   obtain rfl := Option.some.inj H
   go_enter Try.func41, Try.ntmps41
   go_wp2
   go_ret
   exact ⟨by first | rfl | (simp; done) | (simp [*]; done), by repeat (first | exact Drawn0.refl _ | apply Drawn0.step)⟩
 ·rw [if_neg c4] at H
  have c4b0 : decide (0 ≤ a1) = false := decide_eq_false c4
  clear c4
  obtain rfl := Option.some.inj H
  go_enter Try.func41, Try.ntmps41
  go_wp2
  go_ret
  exact ⟨by first | rfl | (simp; done) | (simp [*]; done), by repeat (first | exact Drawn0.refl _ | apply Drawn0.step)⟩

-- num_Lay: by hand

end Go.Proofs.Ythcndfnmgggblaa.P
