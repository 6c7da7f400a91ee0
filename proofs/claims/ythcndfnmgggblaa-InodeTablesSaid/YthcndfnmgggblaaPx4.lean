-- PRINTED by print.py (a twelfth state) out of the translation. Not trusted: Lean checks it.
import Derived.Test.YthcndfnmgggblaaPx0
import Derived.Test.YthcndfnmgggblaaPx1
import Derived.Test.YthcndfnmgggblaaPx3
import Derived.Test.YthcndfnmgggblaaHand
import Derived.Test.YthcndfnmgggblaaHandInode
import Derived.Test.YthcndfnmgggblaaCells
namespace Go.Proofs.Ythcndfnmgggblaa.P
open Go.RowKit Go.Proofs.YthcndfnmgggblaaW.PrintWords Go.Proofs.YthcndfnmgggblaaW.PrintLast Go.Proofs.YthcndfnmgggblaaW.PrintMore
attribute [local go_sem] max2_int min2_int max_two min_two max_three min_three max_four min_four   -- for this text's walks alone
set_option linter.unusedVariables false
set_option linter.unusedSimpArgs false

attribute [local go_sem high] eqA24
/-! ### inode_Right: function 11 -/
def inode_Right.l0 : Nat → Int → Int → Int → Int → Int → Int → Int → Int → Int → Int → Int → Int → Int → Int → Int → Int → Int → Int → Int → Int → Int → Option (Bool)
 | 0, _, _, _, _, _, _, _, _, _, _, _, _, _, _, _, _, _, _, _, _, _ => none
 | k + 1, x8, x103000, x103001, x103002, x103003, x103004, x103005, x103006, x103007, x103008, x103009, x103010, x103011, x700008000, x700008001, x700008002, x700008003, x700008004, x700008005, x700008006, x700008007 => if x8 < 8 then (if x8 = (0 : Int) then (if x700008000 < 0 then (some false) else (if x700008000 ≥ 4096 then (some false) else (inode_Right.l0 k (wrap64 (x8 + 1)) x103000 x103001 x103002 x103003 x103004 x103005 x103006 x103007 x103008 x103009 x103010 x103011 x700008000 x700008001 x700008002 x700008003 x700008004 x700008005 x700008006 x700008007))) else (if x8 = (1 : Int) then (if x700008001 < 0 then (some false) else (if x700008001 ≥ 4096 then (some false) else (inode_Right.l0 k (wrap64 (x8 + 1)) x103000 x103001 x103002 x103003 x103004 x103005 x103006 x103007 x103008 x103009 x103010 x103011 x700008000 x700008001 x700008002 x700008003 x700008004 x700008005 x700008006 x700008007))) else (if x8 = (2 : Int) then (if x700008002 < 0 then (some false) else (if x700008002 ≥ 4096 then (some false) else (inode_Right.l0 k (wrap64 (x8 + 1)) x103000 x103001 x103002 x103003 x103004 x103005 x103006 x103007 x103008 x103009 x103010 x103011 x700008000 x700008001 x700008002 x700008003 x700008004 x700008005 x700008006 x700008007))) else (if x8 = (3 : Int) then (if x700008003 < 0 then (some false) else (if x700008003 ≥ 4096 then (some false) else (inode_Right.l0 k (wrap64 (x8 + 1)) x103000 x103001 x103002 x103003 x103004 x103005 x103006 x103007 x103008 x103009 x103010 x103011 x700008000 x700008001 x700008002 x700008003 x700008004 x700008005 x700008006 x700008007))) else (if x8 = (4 : Int) then (if x700008004 < 0 then (some false) else (if x700008004 ≥ 4096 then (some false) else (inode_Right.l0 k (wrap64 (x8 + 1)) x103000 x103001 x103002 x103003 x103004 x103005 x103006 x103007 x103008 x103009 x103010 x103011 x700008000 x700008001 x700008002 x700008003 x700008004 x700008005 x700008006 x700008007))) else (if x8 = (5 : Int) then (if x700008005 < 0 then (some false) else (if x700008005 ≥ 4096 then (some false) else (inode_Right.l0 k (wrap64 (x8 + 1)) x103000 x103001 x103002 x103003 x103004 x103005 x103006 x103007 x103008 x103009 x103010 x103011 x700008000 x700008001 x700008002 x700008003 x700008004 x700008005 x700008006 x700008007))) else (if x8 = (6 : Int) then (if x700008006 < 0 then (some false) else (if x700008006 ≥ 4096 then (some false) else (inode_Right.l0 k (wrap64 (x8 + 1)) x103000 x103001 x103002 x103003 x103004 x103005 x103006 x103007 x103008 x103009 x103010 x103011 x700008000 x700008001 x700008002 x700008003 x700008004 x700008005 x700008006 x700008007))) else (if x8 = (7 : Int) then (if x700008007 < 0 then (some false) else (if x700008007 ≥ 4096 then (some false) else (inode_Right.l0 k (wrap64 (x8 + 1)) x103000 x103001 x103002 x103003 x103004 x103005 x103006 x103007 x103008 x103009 x103010 x103011 x700008000 x700008001 x700008002 x700008003 x700008004 x700008005 x700008006 x700008007))) else (none))))))))) else (if x103000 = 0 then (some (x103000 == 0 && (x103001 == 0 && (x103002 == 0 && (x103003 == 0 && ((x103004 == 0 && (x103005 == 0 && (x103006 == 0 && (x103007 == 0 && (x103008 == 0 && (x103009 == 0)))))) && (x103010 == 0 && (x103011 == 0)))))))) else (if x103000 = 2 then (if (Int.tmod x103002 256) = 0 then ((inode_sized.f x103000 x103001 x103002 x103003 x103004 x103005 x103006 x103007 x103008 x103009 x103010 x103011).bind fun t114 => (some t114)) else (some false)) else (if x103000 = 1 then ((inode_sized.f x103000 x103001 x103002 x103003 x103004 x103005 x103006 x103007 x103008 x103009 x103010 x103011).bind fun t112 => (some t112)) else (if x103000 = 3 then ((inode_sized.f x103000 x103001 x103002 x103003 x103004 x103005 x103006 x103007 x103008 x103009 x103010 x103011).bind fun t113 => (if t113 = true then (if x103002 ≥ 1 then (some (decide (x103002 ≤ 255))) else (some false)) else (some false))) else (some false)))))
def inode_Right.f (k : Nat) (a0_0 : Int) (a0_1 : Int) (a0_2 : Int) (a0_3 : Int) (a0_4 : Int) (a0_5 : Int) (a0_6 : Int) (a0_7 : Int) (a0_8 : Int) (a0_9 : Int) (a0_10 : Int) (a0_11 : Int) : Option (Bool) := (inode_all.f a0_0 a0_1 a0_2 a0_3 a0_4 a0_5 a0_6 a0_7 a0_8 a0_9 a0_10 a0_11).bind fun bt103 => (inode_Right.l0 k 0 a0_0 a0_1 a0_2 a0_3 a0_4 a0_5 a0_6 a0_7 a0_8 a0_9 a0_10 a0_11 bt103.1 bt103.2.1 bt103.2.2.1 bt103.2.2.2.1 bt103.2.2.2.2.1 bt103.2.2.2.2.2.1 bt103.2.2.2.2.2.2.1 bt103.2.2.2.2.2.2.2)
theorem inode_Right.mono_l : ∀ k, (∀ y0 y1 y2 y3 y4 y5 y6 y7 y8 y9 y10 y11 y12 y13 y14 y15 y16 y17 y18 y19 y20, LeO (inode_Right.l0 k y0 y1 y2 y3 y4 y5 y6 y7 y8 y9 y10 y11 y12 y13 y14 y15 y16 y17 y18 y19 y20) (inode_Right.l0 (k + 1) y0 y1 y2 y3 y4 y5 y6 y7 y8 y9 y10 y11 y12 y13 y14 y15 y16 y17 y18 y19 y20))
 | 0 => fun _ _ _ _ _ _ _ _ _ _ _ _ _ _ _ _ _ _ _ _ _ r h => by simp [inode_Right.l0] at h
 | k + 1 => by
  have ih0 := inode_Right.mono_l k
  ·intro y0 y1 y2 y3 y4 y5 y6 y7 y8 y9 y10 y11 y12 y13 y14 y15 y16 y17 y18 y19 y20
   unfold inode_Right.l0
   repeat' first
   | (with_reducible exact ih0 _ _ _ _ _ _ _ _ _ _ _ _ _ _ _ _ _ _ _ _ _)
   | (with_reducible exact LeO.refl _)
   | (with_reducible exact LeO.none _)
   | (with_reducible refine LeO.ite ?_ ?_)
   | (with_reducible refine LeO.bind ?_ (fun _ => ?_))
   | exact ih0 _ _ _ _ _ _ _ _ _ _ _ _ _ _ _ _ _ _ _ _ _
   | exact LeO.none _
   | refine LeO.ite ?_ ?_
   | refine LeO.bind ?_ (fun _ => ?_)
theorem inode_Right.mono : ∀ a0 a1 a2 a3 a4 a5 a6 a7 a8 a9 a10 a11 k, LeO (inode_Right.f k a0 a1 a2 a3 a4 a5 a6 a7 a8 a9 a10 a11) (inode_Right.f (k + 1) a0 a1 a2 a3 a4 a5 a6 a7 a8 a9 a10 a11) := by
 intro a0 a1 a2 a3 a4 a5 a6 a7 a8 a9 a10 a11 k
 have ih0 := inode_Right.mono_l k
 unfold inode_Right.f
 repeat' first
   | (with_reducible exact ih0 _ _ _ _ _ _ _ _ _ _ _ _ _ _ _ _ _ _ _ _ _)
   | (with_reducible exact LeO.refl _)
   | (with_reducible exact LeO.none _)
   | (with_reducible refine LeO.ite ?_ ?_)
   | (with_reducible refine LeO.bind ?_ (fun _ => ?_))
   | exact ih0 _ _ _ _ _ _ _ _ _ _ _ _ _ _ _ _ _ _ _ _ _
   | exact LeO.none _
   | refine LeO.ite ?_ ?_
   | refine LeO.bind ?_ (fun _ => ?_)
set_option maxHeartbeats 8000000 in
set_option maxRecDepth 100000 in
theorem inode_Right.calls (k : Nat) (a0_0 : Int) (a0_1 : Int) (a0_2 : Int) (a0_3 : Int) (a0_4 : Int) (a0_5 : Int) (a0_6 : Int) (a0_7 : Int) (a0_8 : Int) (a0_9 : Int) (a0_10 : Int) (a0_11 : Int) (r : Bool) (w : World) (h : inode_Right.f k a0_0 a0_1 a0_2 a0_3 a0_4 a0_5 a0_6 a0_7 a0_8 a0_9 a0_10 a0_11 = some r) :
  Calls Try.prog 11 #[.agg #[.int .i64 a0_0, .int .i64 a0_1, .int .i64 a0_2, .int .i64 a0_3, .int .i64 a0_4, .int .i64 a0_5, .int .i64 a0_6, .int .i64 a0_7, .int .i64 a0_8, .int .i64 a0_9, .int .i64 a0_10, .int .i64 a0_11]] w fun e w' => e = .returned (.bool r) ∧ Below w.heap.size w w' := by
 have hu24 := Try.underlying24
 have HB := Aside0.mk (Below.refl w.heap.size w)
 have H : ((inode_all.f a0_0 a0_1 a0_2 a0_3 a0_4 a0_5 a0_6 a0_7 a0_8 a0_9 a0_10 a0_11).bind fun bt103 => (inode_Right.l0 k 0 a0_0 a0_1 a0_2 a0_3 a0_4 a0_5 a0_6 a0_7 a0_8 a0_9 a0_10 a0_11 bt103.1 bt103.2.1 bt103.2.2.1 bt103.2.2.2.1 bt103.2.2.2.2.1 bt103.2.2.2.2.2.1 bt103.2.2.2.2.2.2.1 bt103.2.2.2.2.2.2.2)) = some r := h
 clear h
 replace H := Option.bind_eq_some_iff.mp H
 obtain ⟨⟨t103, t104, t105, t106, t107, t108, t109, t110⟩, A20, H⟩ := H
 replace H : (inode_Right.l0 k 0 a0_0 a0_1 a0_2 a0_3 a0_4 a0_5 a0_6 a0_7 a0_8 a0_9 a0_10 a0_11 t103 t104 t105 t106 t107 t108 t109 t110) = some r := H
 have A2 := Aside0.mk A20
 clear A20
 have H' := Aside0.mk H
 clear H
 go_enter Try.func11, Try.ntmps11
 go_wp2_with (first | ((with_reducible refine gate_dst (N := 1) rfl ?_); refine box_event ?hg (N := 1) ?hd (cs := #[.int .i64 a0_0, .int .i64 a0_1, .int .i64 a0_2, .int .i64 a0_3, .int .i64 a0_4, .int .i64 a0_5, .int .i64 a0_6, .int .i64 a0_7, .int .i64 a0_8, .int .i64 a0_9, .int .i64 a0_10, .int .i64 a0_11]) (t := 24) ?hr ?_; (case hd => rfl); (case hg => rfl); (case hr => first | (go_simp; done) | (go_simp; rfl)); intro gb102 hg w3 hbox hb; have n0_ := Aside0.mk (below_step (by repeat (first | (with_reducible first | exact HB.out | apply below_alloc | apply pw_below_drewN | apply below_drew1) | exact HB.out)) hb); have n1_ := Aside0.mk (hbox); have n2_ := Aside0.mk ((by rw [hg]; exact (below_size (by repeat (first | (with_reducible first | exact HB.out | apply below_alloc | apply pw_below_drewN | apply below_drew1) | exact HB.out))) : w.heap.size ≤ gb102)); have n3_ := Aside0.mk ((by rw [hg]; exact (below_size (by repeat (first | (with_reducible first | exact HB.out | apply below_alloc | apply pw_below_drewN | apply below_drew1) | exact HB.out))) : w.heap.size ≤ gb102)); clear HB; have HB := n0_; have BK102 := n1_; have GW102 := n2_; have GE102 := n3_; clear n0_ n1_ n2_ n3_; clear hb hbox hg; have q_ := cells12 BK102.out; have hcz4_0 := q_.c0; have hcz4_1 := q_.c1; have hcz4_2 := q_.c2; have hcz4_3 := q_.c3; have hcz4_4 := q_.c4; have hcz4_5 := q_.c5; have hcz4_6 := q_.c6; have hcz4_7 := q_.c7; have hcz4_8 := q_.c8; have hcz4_9 := q_.c9; have hcz4_10 := q_.c10; have hcz4_11 := q_.c11; have hfz4_0 := q_.f0; have hfz4_1 := q_.f1; have hfz4_2 := q_.f2; have hfz4_3 := q_.f3; have hfz4_4 := q_.f4; have hfz4_5 := q_.f5; have hfz4_6 := q_.f6; have hfz4_7 := q_.f7; have hfz4_8 := q_.f8; have hfz4_9 := q_.f9; have hfz4_10 := q_.f10; have hfz4_11 := q_.f11; clear q_) | ((with_reducible refine gate_callee (f := 28) rfl ?_); refine goesL_ (some 7) rfl rfl Try.func28 (by kernel_rfl) rfl #[.agg #[.int .i64 a0_0, .int .i64 a0_1, .int .i64 a0_2, .int .i64 a0_3, .int .i64 a0_4, .int .i64 a0_5, .int .i64 a0_6, .int .i64 a0_7, .int .i64 a0_8, .int .i64 a0_9, .int .i64 a0_10, .int .i64 a0_11]] rfl (by (try simp only [List.map_toArray, List.map_cons, List.map_nil]); first | done | rfl | (simp only [List.length_drop, List.length_take]; rfl)) ?_; (with_reducible refine (inode_all.calls a0_0 a0_1 a0_2 a0_3 a0_4 a0_5 a0_6 a0_7 a0_8 a0_9 a0_10 a0_11 t103 t104 t105 t106 t107 t108 t109 t110 _ A2.out).mono ?_); rintro e w5 ⟨rfl, hb⟩; refine ⟨_, rfl, ?_⟩; have n0_ := Aside0.mk (blk_below (g := gb102) (o := .cells #[.int .i64 a0_0, .int .i64 a0_1, .int .i64 a0_2, .int .i64 a0_3, .int .i64 a0_4, .int .i64 a0_5, .int .i64 a0_6, .int .i64 a0_7, .int .i64 a0_8, .int .i64 a0_9, .int .i64 a0_10, .int .i64 a0_11] 24 (0, 0)) (by (with_reducible repeat (first | refine blk_drewN ?_ _ | refine blk_drew ?_ | refine blk_alloc ?_ _)); exact BK102.out) hb); have n1_ := Aside0.mk (below_step (by repeat (first | (with_reducible first | exact HB.out | apply below_alloc | apply pw_below_drewN | apply below_drew1 | refine below_set ?_ GE102.out) | exact HB.out)) hb); clear BK102; clear HB; have BK102 := n0_; have HB := n1_; clear n0_ n1_; (try clear hb); (try clear hb2); (try clear hk); (try clear hi)))
 go_loopg [8] k (fun kq v8 w' => ∃ (x8_1 : Int), v8 = .int .i64 x8_1 ∧ Aside0 (inode_Right.l0 kq x8_1 a0_0 a0_1 a0_2 a0_3 a0_4 a0_5 a0_6 a0_7 a0_8 a0_9 a0_10 a0_11 t103 t104 t105 t106 t107 t108 t109 t110 = some r) ∧ Aside0 (kq ≤ k) ∧ Aside0 (w'.heap[gb102]? = some (.cells #[.int .i64 a0_0, .int .i64 a0_1, .int .i64 a0_2, .int .i64 a0_3, .int .i64 a0_4, .int .i64 a0_5, .int .i64 a0_6, .int .i64 a0_7, .int .i64 a0_8, .int .i64 a0_9, .int .i64 a0_10, .int .i64 a0_11] 24 (0, 0))) ∧ Aside0 (Below w.heap.size w w'))
 case atStart => exact ⟨(0), (by first | rfl | (simp; done) | (simp [*]; done)), H', ⟨Nat.le_refl _⟩, ⟨by (with_reducible repeat (first | refine blk_drewN ?_ _ | refine blk_drew ?_ | refine blk_alloc ?_ _)); exact BK102.out⟩, ⟨by repeat (first | (with_reducible first | exact HB.out | apply below_alloc | apply pw_below_drewN | apply below_drew1 | refine below_set ?_ GE102.out) | exact HB.out)⟩⟩
 case round =>
  clear H'
  try clear c1
  try clear c2
  try clear p2
  try clear hcz4_0 hcz4_1 hcz4_10 hcz4_11 hcz4_2 hcz4_3 hcz4_4 hcz4_5 hcz4_6 hcz4_7 hcz4_8 hcz4_9
  try clear hfz4_0 hfz4_1 hfz4_10 hfz4_11 hfz4_2 hfz4_3 hfz4_4 hfz4_5 hfz4_6 hfz4_7 hfz4_8 hfz4_9
  obtain ⟨x8_1, rfl, HA, HK1, BK102, HB⟩ := hrel
  cases gk with
  | zero => exact absurd HA.out (by simp [inode_Right.l0])
  | succ k1 =>
   have H := HA.out
   clear HA
   simp only [inode_Right.l0] at H
   by_cases c6 : x8_1 < 8
   ·rw [if_pos c6] at H
    have c6b0 : decide (x8_1 < 8) = true := decide_eq_true c6
    clear c6
    by_cases c7 : x8_1 = (0 : Int)
    ·rw [if_pos c7] at H
     have c7z := Aside0.mk c7
     (try (have c7i : ∀ (t_ : TypeId) (v_ : Value), Instr.index t_ v_ (.int .i64 x8_1) = Instr.index t_ v_ (.int .i64 0) := fun _ _ => by rw [c7]))
     (try (have c7a : ∀ (t_ : TypeId) (v_ : Value), Instr.indexAt t_ v_ (.int .i64 x8_1) = Instr.indexAt t_ v_ (.int .i64 0) := fun _ _ => by rw [c7]))
     (try (have c7j22 : ∀ (W_ : World) (v0_ v1_ v2_ v3_ v4_ v5_ : Value), (Instr.index 22 (.agg #[v0_, v1_, v2_, v3_, v4_, v5_]) (.int .i64 0)).run Try.prog W_ = .ok v0_ W_ := by intros; kernel_rfl))
     (try (have c7j49 : ∀ (W_ : World) (v0_ v1_ v2_ v3_ v4_ v5_ v6_ v7_ : Value), (Instr.index 49 (.agg #[v0_, v1_, v2_, v3_, v4_, v5_, v6_, v7_]) (.int .i64 0)).run Try.prog W_ = .ok v0_ W_ := by intros; kernel_rfl))
     have c7b0 : (x8_1 == (0 : Int)) = true := beq_iff_eq.mpr c7
     have c7b1 : (x8_1 != (0 : Int)) = false := bne_eq_false_iff_eq.mpr c7
     clear c7
     by_cases c8 : t103 < 0
     ·rw [if_pos c8] at H
      have c8b0 : decide (t103 < 0) = true := decide_eq_true c8
      clear c8
      obtain rfl := Option.some.inj H
      go_wp2
      go_ret
      exact ⟨by first | rfl | (simp [errW_none, errW_some] <;> rfl) | (simp [*, errW_none, errW_some] <;> rfl), by repeat (first | (with_reducible first | exact HB.out | apply below_alloc | apply pw_below_drewN | apply below_drew1 | refine below_set ?_ GE102.out) | exact HB.out)⟩
     ·rw [if_neg c8] at H
      have c8b0 : decide (t103 < 0) = false := decide_eq_false c8
      clear c8
      by_cases c9 : t103 ≥ 4096
      ·rw [if_pos c9] at H
       have c9b0 : decide (4096 ≤ t103) = true := decide_eq_true c9
       clear c9
       obtain rfl := Option.some.inj H
       go_wp2
       go_ret
       exact ⟨by first | rfl | (simp [errW_none, errW_some] <;> rfl) | (simp [*, errW_none, errW_some] <;> rfl), by repeat (first | (with_reducible first | exact HB.out | apply below_alloc | apply pw_below_drewN | apply below_drew1 | refine below_set ?_ GE102.out) | exact HB.out)⟩
      ·rw [if_neg c9] at H
       have c9b0 : decide (4096 ≤ t103) = false := decide_eq_false c9
       clear c9
       have H' := Aside0.mk H
       clear H
       go_wp2
       go_roundg k1
       case measure => have := HK1.out; omega
       case rel => exact ⟨(wrap64 (x8_1 + 1)), (by first | rfl | (simp; done) | (simp [*]; done) | (have hz_ := c7z.out; congr 1; unfold wrap64; omega)), H', ⟨by have := HK1.out; omega⟩, ⟨by (with_reducible repeat (first | refine blk_drewN ?_ _ | refine blk_drew ?_ | refine blk_alloc ?_ _)); exact BK102.out⟩, ⟨by repeat (first | (with_reducible first | exact HB.out | apply below_alloc | apply pw_below_drewN | apply below_drew1 | refine below_set ?_ GE102.out) | exact HB.out)⟩⟩
    ·rw [if_neg c7] at H
     have c7b0 : (x8_1 == (0 : Int)) = false := beq_eq_false_iff_ne.mpr c7
     have c7b1 : (x8_1 != (0 : Int)) = true := bne_iff_ne.mpr c7
     by_cases c10 : x8_1 = (1 : Int)
     ·rw [if_pos c10] at H
      have c10z := Aside0.mk c10
      (try (have c10i : ∀ (t_ : TypeId) (v_ : Value), Instr.index t_ v_ (.int .i64 x8_1) = Instr.index t_ v_ (.int .i64 1) := fun _ _ => by rw [c10]))
      (try (have c10a : ∀ (t_ : TypeId) (v_ : Value), Instr.indexAt t_ v_ (.int .i64 x8_1) = Instr.indexAt t_ v_ (.int .i64 1) := fun _ _ => by rw [c10]))
      (try (have c10j22 : ∀ (W_ : World) (v0_ v1_ v2_ v3_ v4_ v5_ : Value), (Instr.index 22 (.agg #[v0_, v1_, v2_, v3_, v4_, v5_]) (.int .i64 1)).run Try.prog W_ = .ok v1_ W_ := by intros; kernel_rfl))
      (try (have c10j49 : ∀ (W_ : World) (v0_ v1_ v2_ v3_ v4_ v5_ v6_ v7_ : Value), (Instr.index 49 (.agg #[v0_, v1_, v2_, v3_, v4_, v5_, v6_, v7_]) (.int .i64 1)).run Try.prog W_ = .ok v1_ W_ := by intros; kernel_rfl))
      have c10b0 : (x8_1 == (1 : Int)) = true := beq_iff_eq.mpr c10
      have c10b1 : (x8_1 != (1 : Int)) = false := bne_eq_false_iff_eq.mpr c10
      clear c10
      by_cases c11 : t104 < 0
      ·rw [if_pos c11] at H
       have c11b0 : decide (t104 < 0) = true := decide_eq_true c11
       clear c11
       obtain rfl := Option.some.inj H
       go_wp2
       go_ret
       exact ⟨by first | rfl | (simp [errW_none, errW_some] <;> rfl) | (simp [*, errW_none, errW_some] <;> rfl), by repeat (first | (with_reducible first | exact HB.out | apply below_alloc | apply pw_below_drewN | apply below_drew1 | refine below_set ?_ GE102.out) | exact HB.out)⟩
      ·rw [if_neg c11] at H
       have c11b0 : decide (t104 < 0) = false := decide_eq_false c11
       clear c11
       by_cases c12 : t104 ≥ 4096
       ·rw [if_pos c12] at H
        have c12b0 : decide (4096 ≤ t104) = true := decide_eq_true c12
        clear c12
        obtain rfl := Option.some.inj H
        go_wp2
        go_ret
        exact ⟨by first | rfl | (simp [errW_none, errW_some] <;> rfl) | (simp [*, errW_none, errW_some] <;> rfl), by repeat (first | (with_reducible first | exact HB.out | apply below_alloc | apply pw_below_drewN | apply below_drew1 | refine below_set ?_ GE102.out) | exact HB.out)⟩
       ·rw [if_neg c12] at H
        have c12b0 : decide (4096 ≤ t104) = false := decide_eq_false c12
        clear c12
        have H' := Aside0.mk H
        clear H
        go_wp2
        go_roundg k1
        case measure => have := HK1.out; omega
        case rel => exact ⟨(wrap64 (x8_1 + 1)), (by first | rfl | (simp; done) | (simp [*]; done) | (have hz_ := c10z.out; congr 1; unfold wrap64; omega)), H', ⟨by have := HK1.out; omega⟩, ⟨by (with_reducible repeat (first | refine blk_drewN ?_ _ | refine blk_drew ?_ | refine blk_alloc ?_ _)); exact BK102.out⟩, ⟨by repeat (first | (with_reducible first | exact HB.out | apply below_alloc | apply pw_below_drewN | apply below_drew1 | refine below_set ?_ GE102.out) | exact HB.out)⟩⟩
     ·rw [if_neg c10] at H
      have c10b0 : (x8_1 == (1 : Int)) = false := beq_eq_false_iff_ne.mpr c10
      have c10b1 : (x8_1 != (1 : Int)) = true := bne_iff_ne.mpr c10
      by_cases c13 : x8_1 = (2 : Int)
      ·rw [if_pos c13] at H
       have c13z := Aside0.mk c13
       (try (have c13i : ∀ (t_ : TypeId) (v_ : Value), Instr.index t_ v_ (.int .i64 x8_1) = Instr.index t_ v_ (.int .i64 2) := fun _ _ => by rw [c13]))
       (try (have c13a : ∀ (t_ : TypeId) (v_ : Value), Instr.indexAt t_ v_ (.int .i64 x8_1) = Instr.indexAt t_ v_ (.int .i64 2) := fun _ _ => by rw [c13]))
       (try (have c13j22 : ∀ (W_ : World) (v0_ v1_ v2_ v3_ v4_ v5_ : Value), (Instr.index 22 (.agg #[v0_, v1_, v2_, v3_, v4_, v5_]) (.int .i64 2)).run Try.prog W_ = .ok v2_ W_ := by intros; kernel_rfl))
       (try (have c13j49 : ∀ (W_ : World) (v0_ v1_ v2_ v3_ v4_ v5_ v6_ v7_ : Value), (Instr.index 49 (.agg #[v0_, v1_, v2_, v3_, v4_, v5_, v6_, v7_]) (.int .i64 2)).run Try.prog W_ = .ok v2_ W_ := by intros; kernel_rfl))
       have c13b0 : (x8_1 == (2 : Int)) = true := beq_iff_eq.mpr c13
       have c13b1 : (x8_1 != (2 : Int)) = false := bne_eq_false_iff_eq.mpr c13
       clear c13
       by_cases c14 : t105 < 0
       ·rw [if_pos c14] at H
        have c14b0 : decide (t105 < 0) = true := decide_eq_true c14
        clear c14
        obtain rfl := Option.some.inj H
        go_wp2
        go_ret
        exact ⟨by first | rfl | (simp [errW_none, errW_some] <;> rfl) | (simp [*, errW_none, errW_some] <;> rfl), by repeat (first | (with_reducible first | exact HB.out | apply below_alloc | apply pw_below_drewN | apply below_drew1 | refine below_set ?_ GE102.out) | exact HB.out)⟩
       ·rw [if_neg c14] at H
        have c14b0 : decide (t105 < 0) = false := decide_eq_false c14
        clear c14
        by_cases c15 : t105 ≥ 4096
        ·rw [if_pos c15] at H
         have c15b0 : decide (4096 ≤ t105) = true := decide_eq_true c15
         clear c15
         obtain rfl := Option.some.inj H
         go_wp2
         go_ret
         exact ⟨by first | rfl | (simp [errW_none, errW_some] <;> rfl) | (simp [*, errW_none, errW_some] <;> rfl), by repeat (first | (with_reducible first | exact HB.out | apply below_alloc | apply pw_below_drewN | apply below_drew1 | refine below_set ?_ GE102.out) | exact HB.out)⟩
        ·rw [if_neg c15] at H
         have c15b0 : decide (4096 ≤ t105) = false := decide_eq_false c15
         clear c15
         have H' := Aside0.mk H
         clear H
         go_wp2
         go_roundg k1
         case measure => have := HK1.out; omega
         case rel => exact ⟨(wrap64 (x8_1 + 1)), (by first | rfl | (simp; done) | (simp [*]; done) | (have hz_ := c13z.out; congr 1; unfold wrap64; omega)), H', ⟨by have := HK1.out; omega⟩, ⟨by (with_reducible repeat (first | refine blk_drewN ?_ _ | refine blk_drew ?_ | refine blk_alloc ?_ _)); exact BK102.out⟩, ⟨by repeat (first | (with_reducible first | exact HB.out | apply below_alloc | apply pw_below_drewN | apply below_drew1 | refine below_set ?_ GE102.out) | exact HB.out)⟩⟩
      ·rw [if_neg c13] at H
       have c13b0 : (x8_1 == (2 : Int)) = false := beq_eq_false_iff_ne.mpr c13
       have c13b1 : (x8_1 != (2 : Int)) = true := bne_iff_ne.mpr c13
       by_cases c16 : x8_1 = (3 : Int)
       ·rw [if_pos c16] at H
        have c16z := Aside0.mk c16
        (try (have c16i : ∀ (t_ : TypeId) (v_ : Value), Instr.index t_ v_ (.int .i64 x8_1) = Instr.index t_ v_ (.int .i64 3) := fun _ _ => by rw [c16]))
        (try (have c16a : ∀ (t_ : TypeId) (v_ : Value), Instr.indexAt t_ v_ (.int .i64 x8_1) = Instr.indexAt t_ v_ (.int .i64 3) := fun _ _ => by rw [c16]))
        (try (have c16j22 : ∀ (W_ : World) (v0_ v1_ v2_ v3_ v4_ v5_ : Value), (Instr.index 22 (.agg #[v0_, v1_, v2_, v3_, v4_, v5_]) (.int .i64 3)).run Try.prog W_ = .ok v3_ W_ := by intros; kernel_rfl))
        (try (have c16j49 : ∀ (W_ : World) (v0_ v1_ v2_ v3_ v4_ v5_ v6_ v7_ : Value), (Instr.index 49 (.agg #[v0_, v1_, v2_, v3_, v4_, v5_, v6_, v7_]) (.int .i64 3)).run Try.prog W_ = .ok v3_ W_ := by intros; kernel_rfl))
        have c16b0 : (x8_1 == (3 : Int)) = true := beq_iff_eq.mpr c16
        have c16b1 : (x8_1 != (3 : Int)) = false := bne_eq_false_iff_eq.mpr c16
        clear c16
        by_cases c17 : t106 < 0
        ·rw [if_pos c17] at H
         have c17b0 : decide (t106 < 0) = true := decide_eq_true c17
         clear c17
         obtain rfl := Option.some.inj H
         go_wp2
         go_ret
         exact ⟨by first | rfl | (simp [errW_none, errW_some] <;> rfl) | (simp [*, errW_none, errW_some] <;> rfl), by repeat (first | (with_reducible first | exact HB.out | apply below_alloc | apply pw_below_drewN | apply below_drew1 | refine below_set ?_ GE102.out) | exact HB.out)⟩
        ·rw [if_neg c17] at H
         have c17b0 : decide (t106 < 0) = false := decide_eq_false c17
         clear c17
         by_cases c18 : t106 ≥ 4096
         ·rw [if_pos c18] at H
          have c18b0 : decide (4096 ≤ t106) = true := decide_eq_true c18
          clear c18
          obtain rfl := Option.some.inj H
          go_wp2
          go_ret
          exact ⟨by first | rfl | (simp [errW_none, errW_some] <;> rfl) | (simp [*, errW_none, errW_some] <;> rfl), by repeat (first | (with_reducible first | exact HB.out | apply below_alloc | apply pw_below_drewN | apply below_drew1 | refine below_set ?_ GE102.out) | exact HB.out)⟩
         ·rw [if_neg c18] at H
          have c18b0 : decide (4096 ≤ t106) = false := decide_eq_false c18
          clear c18
          have H' := Aside0.mk H
          clear H
          go_wp2
          go_roundg k1
          case measure => have := HK1.out; omega
          case rel => exact ⟨(wrap64 (x8_1 + 1)), (by first | rfl | (simp; done) | (simp [*]; done) | (have hz_ := c16z.out; congr 1; unfold wrap64; omega)), H', ⟨by have := HK1.out; omega⟩, ⟨by (with_reducible repeat (first | refine blk_drewN ?_ _ | refine blk_drew ?_ | refine blk_alloc ?_ _)); exact BK102.out⟩, ⟨by repeat (first | (with_reducible first | exact HB.out | apply below_alloc | apply pw_below_drewN | apply below_drew1 | refine below_set ?_ GE102.out) | exact HB.out)⟩⟩
       ·rw [if_neg c16] at H
        have c16b0 : (x8_1 == (3 : Int)) = false := beq_eq_false_iff_ne.mpr c16
        have c16b1 : (x8_1 != (3 : Int)) = true := bne_iff_ne.mpr c16
        by_cases c19 : x8_1 = (4 : Int)
        ·rw [if_pos c19] at H
         have c19z := Aside0.mk c19
         (try (have c19i : ∀ (t_ : TypeId) (v_ : Value), Instr.index t_ v_ (.int .i64 x8_1) = Instr.index t_ v_ (.int .i64 4) := fun _ _ => by rw [c19]))
         (try (have c19a : ∀ (t_ : TypeId) (v_ : Value), Instr.indexAt t_ v_ (.int .i64 x8_1) = Instr.indexAt t_ v_ (.int .i64 4) := fun _ _ => by rw [c19]))
         (try (have c19j22 : ∀ (W_ : World) (v0_ v1_ v2_ v3_ v4_ v5_ : Value), (Instr.index 22 (.agg #[v0_, v1_, v2_, v3_, v4_, v5_]) (.int .i64 4)).run Try.prog W_ = .ok v4_ W_ := by intros; kernel_rfl))
         (try (have c19j49 : ∀ (W_ : World) (v0_ v1_ v2_ v3_ v4_ v5_ v6_ v7_ : Value), (Instr.index 49 (.agg #[v0_, v1_, v2_, v3_, v4_, v5_, v6_, v7_]) (.int .i64 4)).run Try.prog W_ = .ok v4_ W_ := by intros; kernel_rfl))
         have c19b0 : (x8_1 == (4 : Int)) = true := beq_iff_eq.mpr c19
         have c19b1 : (x8_1 != (4 : Int)) = false := bne_eq_false_iff_eq.mpr c19
         clear c19
         by_cases c20 : t107 < 0
         ·rw [if_pos c20] at H
          have c20b0 : decide (t107 < 0) = true := decide_eq_true c20
          clear c20
          obtain rfl := Option.some.inj H
          go_wp2
          go_ret
          exact ⟨by first | rfl | (simp [errW_none, errW_some] <;> rfl) | (simp [*, errW_none, errW_some] <;> rfl), by repeat (first | (with_reducible first | exact HB.out | apply below_alloc | apply pw_below_drewN | apply below_drew1 | refine below_set ?_ GE102.out) | exact HB.out)⟩
         ·rw [if_neg c20] at H
          have c20b0 : decide (t107 < 0) = false := decide_eq_false c20
          clear c20
          by_cases c21 : t107 ≥ 4096
          ·rw [if_pos c21] at H
           have c21b0 : decide (4096 ≤ t107) = true := decide_eq_true c21
           clear c21
           obtain rfl := Option.some.inj H
           go_wp2
           go_ret
           exact ⟨by first | rfl | (simp [errW_none, errW_some] <;> rfl) | (simp [*, errW_none, errW_some] <;> rfl), by repeat (first | (with_reducible first | exact HB.out | apply below_alloc | apply pw_below_drewN | apply below_drew1 | refine below_set ?_ GE102.out) | exact HB.out)⟩
          ·rw [if_neg c21] at H
           have c21b0 : decide (4096 ≤ t107) = false := decide_eq_false c21
           clear c21
           have H' := Aside0.mk H
           clear H
           go_wp2
           go_roundg k1
           case measure => have := HK1.out; omega
           case rel => exact ⟨(wrap64 (x8_1 + 1)), (by first | rfl | (simp; done) | (simp [*]; done) | (have hz_ := c19z.out; congr 1; unfold wrap64; omega)), H', ⟨by have := HK1.out; omega⟩, ⟨by (with_reducible repeat (first | refine blk_drewN ?_ _ | refine blk_drew ?_ | refine blk_alloc ?_ _)); exact BK102.out⟩, ⟨by repeat (first | (with_reducible first | exact HB.out | apply below_alloc | apply pw_below_drewN | apply below_drew1 | refine below_set ?_ GE102.out) | exact HB.out)⟩⟩
        ·rw [if_neg c19] at H
         have c19b0 : (x8_1 == (4 : Int)) = false := beq_eq_false_iff_ne.mpr c19
         have c19b1 : (x8_1 != (4 : Int)) = true := bne_iff_ne.mpr c19
         by_cases c22 : x8_1 = (5 : Int)
         ·rw [if_pos c22] at H
          have c22z := Aside0.mk c22
          (try (have c22i : ∀ (t_ : TypeId) (v_ : Value), Instr.index t_ v_ (.int .i64 x8_1) = Instr.index t_ v_ (.int .i64 5) := fun _ _ => by rw [c22]))
          (try (have c22a : ∀ (t_ : TypeId) (v_ : Value), Instr.indexAt t_ v_ (.int .i64 x8_1) = Instr.indexAt t_ v_ (.int .i64 5) := fun _ _ => by rw [c22]))
          (try (have c22j22 : ∀ (W_ : World) (v0_ v1_ v2_ v3_ v4_ v5_ : Value), (Instr.index 22 (.agg #[v0_, v1_, v2_, v3_, v4_, v5_]) (.int .i64 5)).run Try.prog W_ = .ok v5_ W_ := by intros; kernel_rfl))
          (try (have c22j49 : ∀ (W_ : World) (v0_ v1_ v2_ v3_ v4_ v5_ v6_ v7_ : Value), (Instr.index 49 (.agg #[v0_, v1_, v2_, v3_, v4_, v5_, v6_, v7_]) (.int .i64 5)).run Try.prog W_ = .ok v5_ W_ := by intros; kernel_rfl))
          have c22b0 : (x8_1 == (5 : Int)) = true := beq_iff_eq.mpr c22
          have c22b1 : (x8_1 != (5 : Int)) = false := bne_eq_false_iff_eq.mpr c22
          clear c22
          by_cases c23 : t108 < 0
          ·rw [if_pos c23] at H
           have c23b0 : decide (t108 < 0) = true := decide_eq_true c23
           clear c23
           obtain rfl := Option.some.inj H
           go_wp2
           go_ret
           exact ⟨by first | rfl | (simp [errW_none, errW_some] <;> rfl) | (simp [*, errW_none, errW_some] <;> rfl), by repeat (first | (with_reducible first | exact HB.out | apply below_alloc | apply pw_below_drewN | apply below_drew1 | refine below_set ?_ GE102.out) | exact HB.out)⟩
          ·rw [if_neg c23] at H
           have c23b0 : decide (t108 < 0) = false := decide_eq_false c23
           clear c23
           by_cases c24 : t108 ≥ 4096
           ·rw [if_pos c24] at H
            have c24b0 : decide (4096 ≤ t108) = true := decide_eq_true c24
            clear c24
            obtain rfl := Option.some.inj H
            go_wp2
            go_ret
            exact ⟨by first | rfl | (simp [errW_none, errW_some] <;> rfl) | (simp [*, errW_none, errW_some] <;> rfl), by repeat (first | (with_reducible first | exact HB.out | apply below_alloc | apply pw_below_drewN | apply below_drew1 | refine below_set ?_ GE102.out) | exact HB.out)⟩
           ·rw [if_neg c24] at H
            have c24b0 : decide (4096 ≤ t108) = false := decide_eq_false c24
            clear c24
            have H' := Aside0.mk H
            clear H
            go_wp2
            go_roundg k1
            case measure => have := HK1.out; omega
            case rel => exact ⟨(wrap64 (x8_1 + 1)), (by first | rfl | (simp; done) | (simp [*]; done) | (have hz_ := c22z.out; congr 1; unfold wrap64; omega)), H', ⟨by have := HK1.out; omega⟩, ⟨by (with_reducible repeat (first | refine blk_drewN ?_ _ | refine blk_drew ?_ | refine blk_alloc ?_ _)); exact BK102.out⟩, ⟨by repeat (first | (with_reducible first | exact HB.out | apply below_alloc | apply pw_below_drewN | apply below_drew1 | refine below_set ?_ GE102.out) | exact HB.out)⟩⟩
         ·rw [if_neg c22] at H
          have c22b0 : (x8_1 == (5 : Int)) = false := beq_eq_false_iff_ne.mpr c22
          have c22b1 : (x8_1 != (5 : Int)) = true := bne_iff_ne.mpr c22
          by_cases c25 : x8_1 = (6 : Int)
          ·rw [if_pos c25] at H
           have c25z := Aside0.mk c25
           (try (have c25i : ∀ (t_ : TypeId) (v_ : Value), Instr.index t_ v_ (.int .i64 x8_1) = Instr.index t_ v_ (.int .i64 6) := fun _ _ => by rw [c25]))
           (try (have c25a : ∀ (t_ : TypeId) (v_ : Value), Instr.indexAt t_ v_ (.int .i64 x8_1) = Instr.indexAt t_ v_ (.int .i64 6) := fun _ _ => by rw [c25]))
           (try (have c25j49 : ∀ (W_ : World) (v0_ v1_ v2_ v3_ v4_ v5_ v6_ v7_ : Value), (Instr.index 49 (.agg #[v0_, v1_, v2_, v3_, v4_, v5_, v6_, v7_]) (.int .i64 6)).run Try.prog W_ = .ok v6_ W_ := by intros; kernel_rfl))
           have c25b0 : (x8_1 == (6 : Int)) = true := beq_iff_eq.mpr c25
           have c25b1 : (x8_1 != (6 : Int)) = false := bne_eq_false_iff_eq.mpr c25
           clear c25
           by_cases c26 : t109 < 0
           ·rw [if_pos c26] at H
            have c26b0 : decide (t109 < 0) = true := decide_eq_true c26
            clear c26
            obtain rfl := Option.some.inj H
            go_wp2
            go_ret
            exact ⟨by first | rfl | (simp [errW_none, errW_some] <;> rfl) | (simp [*, errW_none, errW_some] <;> rfl), by repeat (first | (with_reducible first | exact HB.out | apply below_alloc | apply pw_below_drewN | apply below_drew1 | refine below_set ?_ GE102.out) | exact HB.out)⟩
           ·rw [if_neg c26] at H
            have c26b0 : decide (t109 < 0) = false := decide_eq_false c26
            clear c26
            by_cases c27 : t109 ≥ 4096
            ·rw [if_pos c27] at H
             have c27b0 : decide (4096 ≤ t109) = true := decide_eq_true c27
             clear c27
             obtain rfl := Option.some.inj H
             go_wp2
             go_ret
             exact ⟨by first | rfl | (simp [errW_none, errW_some] <;> rfl) | (simp [*, errW_none, errW_some] <;> rfl), by repeat (first | (with_reducible first | exact HB.out | apply below_alloc | apply pw_below_drewN | apply below_drew1 | refine below_set ?_ GE102.out) | exact HB.out)⟩
            ·rw [if_neg c27] at H
             have c27b0 : decide (4096 ≤ t109) = false := decide_eq_false c27
             clear c27
             have H' := Aside0.mk H
             clear H
             go_wp2
             go_roundg k1
             case measure => have := HK1.out; omega
             case rel => exact ⟨(wrap64 (x8_1 + 1)), (by first | rfl | (simp; done) | (simp [*]; done) | (have hz_ := c25z.out; congr 1; unfold wrap64; omega)), H', ⟨by have := HK1.out; omega⟩, ⟨by (with_reducible repeat (first | refine blk_drewN ?_ _ | refine blk_drew ?_ | refine blk_alloc ?_ _)); exact BK102.out⟩, ⟨by repeat (first | (with_reducible first | exact HB.out | apply below_alloc | apply pw_below_drewN | apply below_drew1 | refine below_set ?_ GE102.out) | exact HB.out)⟩⟩
          ·rw [if_neg c25] at H
           have c25b0 : (x8_1 == (6 : Int)) = false := beq_eq_false_iff_ne.mpr c25
           have c25b1 : (x8_1 != (6 : Int)) = true := bne_iff_ne.mpr c25
           by_cases c28 : x8_1 = (7 : Int)
           ·rw [if_pos c28] at H
            have c28z := Aside0.mk c28
            (try (have c28i : ∀ (t_ : TypeId) (v_ : Value), Instr.index t_ v_ (.int .i64 x8_1) = Instr.index t_ v_ (.int .i64 7) := fun _ _ => by rw [c28]))
            (try (have c28a : ∀ (t_ : TypeId) (v_ : Value), Instr.indexAt t_ v_ (.int .i64 x8_1) = Instr.indexAt t_ v_ (.int .i64 7) := fun _ _ => by rw [c28]))
            (try (have c28j49 : ∀ (W_ : World) (v0_ v1_ v2_ v3_ v4_ v5_ v6_ v7_ : Value), (Instr.index 49 (.agg #[v0_, v1_, v2_, v3_, v4_, v5_, v6_, v7_]) (.int .i64 7)).run Try.prog W_ = .ok v7_ W_ := by intros; kernel_rfl))
            have c28b0 : (x8_1 == (7 : Int)) = true := beq_iff_eq.mpr c28
            have c28b1 : (x8_1 != (7 : Int)) = false := bne_eq_false_iff_eq.mpr c28
            clear c28
            by_cases c29 : t110 < 0
            ·rw [if_pos c29] at H
             have c29b0 : decide (t110 < 0) = true := decide_eq_true c29
             clear c29
             obtain rfl := Option.some.inj H
             go_wp2
             go_ret
             exact ⟨by first | rfl | (simp [errW_none, errW_some] <;> rfl) | (simp [*, errW_none, errW_some] <;> rfl), by repeat (first | (with_reducible first | exact HB.out | apply below_alloc | apply pw_below_drewN | apply below_drew1 | refine below_set ?_ GE102.out) | exact HB.out)⟩
            ·rw [if_neg c29] at H
             have c29b0 : decide (t110 < 0) = false := decide_eq_false c29
             clear c29
             by_cases c30 : t110 ≥ 4096
             ·rw [if_pos c30] at H
              have c30b0 : decide (4096 ≤ t110) = true := decide_eq_true c30
              clear c30
              obtain rfl := Option.some.inj H
              go_wp2
              go_ret
              exact ⟨by first | rfl | (simp [errW_none, errW_some] <;> rfl) | (simp [*, errW_none, errW_some] <;> rfl), by repeat (first | (with_reducible first | exact HB.out | apply below_alloc | apply pw_below_drewN | apply below_drew1 | refine below_set ?_ GE102.out) | exact HB.out)⟩
             ·rw [if_neg c30] at H
              have c30b0 : decide (4096 ≤ t110) = false := decide_eq_false c30
              clear c30
              have H' := Aside0.mk H
              clear H
              go_wp2
              go_roundg k1
              case measure => have := HK1.out; omega
              case rel => exact ⟨(wrap64 (x8_1 + 1)), (by first | rfl | (simp; done) | (simp [*]; done) | (have hz_ := c28z.out; congr 1; unfold wrap64; omega)), H', ⟨by have := HK1.out; omega⟩, ⟨by (with_reducible repeat (first | refine blk_drewN ?_ _ | refine blk_drew ?_ | refine blk_alloc ?_ _)); exact BK102.out⟩, ⟨by repeat (first | (with_reducible first | exact HB.out | apply below_alloc | apply pw_below_drewN | apply below_drew1 | refine below_set ?_ GE102.out) | exact HB.out)⟩⟩
           ·rw [if_neg c28] at H
            exact absurd H (by simp)
   ·rw [if_neg c6] at H
    have c6b0 : decide (x8_1 < 8) = false := decide_eq_false c6
    clear c6
    by_cases c31 : a0_0 = 0
    ·rw [if_pos c31] at H
     have c31b0 : (a0_0 == 0) = true := beq_iff_eq.mpr c31
     have c31b1 : (a0_0 != 0) = false := bne_eq_false_iff_eq.mpr c31
     clear c31
     obtain rfl := Option.some.inj H
     have q_ := cells12 BK102.out; have hcz32_0 := q_.c0; have hcz32_1 := q_.c1; have hcz32_2 := q_.c2; have hcz32_3 := q_.c3; have hcz32_4 := q_.c4; have hcz32_5 := q_.c5; have hcz32_6 := q_.c6; have hcz32_7 := q_.c7; have hcz32_8 := q_.c8; have hcz32_9 := q_.c9; have hcz32_10 := q_.c10; have hcz32_11 := q_.c11; have hfz32_0 := q_.f0; have hfz32_1 := q_.f1; have hfz32_2 := q_.f2; have hfz32_3 := q_.f3; have hfz32_4 := q_.f4; have hfz32_5 := q_.f5; have hfz32_6 := q_.f6; have hfz32_7 := q_.f7; have hfz32_8 := q_.f8; have hfz32_9 := q_.f9; have hfz32_10 := q_.f10; have hfz32_11 := q_.f11; clear q_
     go_wp2_with (first | ((with_reducible refine gate_dst (N := 5) rfl ?_); refine box_event ?hg (N := 5) ?hd (cs := #[.int .i64 0, .int .i64 0, .int .i64 0, .int .i64 0, .int .i64 0, .int .i64 0, .int .i64 0, .int .i64 0, .int .i64 0, .int .i64 0, .int .i64 0, .int .i64 0]) (t := 24) ?hr ?_; (case hd => rfl); (case hg => rfl); (case hr => first | (go_simp; done) | (go_simp; rfl)); intro gb111 hg w33 hbox hb; have n0_ := Aside0.mk (blk_below (g := gb102) (o := .cells #[.int .i64 a0_0, .int .i64 a0_1, .int .i64 a0_2, .int .i64 a0_3, .int .i64 a0_4, .int .i64 a0_5, .int .i64 a0_6, .int .i64 a0_7, .int .i64 a0_8, .int .i64 a0_9, .int .i64 a0_10, .int .i64 a0_11] 24 (0, 0)) (by (with_reducible repeat (first | refine blk_drewN ?_ _ | refine blk_drew ?_ | refine blk_alloc ?_ _)); exact BK102.out) hb); have n1_ := Aside0.mk (below_step (by repeat (first | (with_reducible first | exact HB.out | apply below_alloc | apply pw_below_drewN | apply below_drew1 | refine below_set ?_ GE102.out) | exact HB.out)) hb); have n2_ := Aside0.mk (hbox); have n3_ := Aside0.mk ((by rw [hg]; exact (below_size (by repeat (first | (with_reducible first | exact HB.out | apply below_alloc | apply pw_below_drewN | apply below_drew1 | refine below_set ?_ GE102.out) | exact HB.out))) : w.heap.size ≤ gb111)); have n4_ := Aside0.mk ((by rw [hg]; exact (below_size (by repeat (first | (with_reducible first | exact HB.out | apply below_alloc | apply pw_below_drewN | apply below_drew1 | refine below_set ?_ GE102.out) | exact HB.out))) : w.heap.size ≤ gb111)); have n5_ := Aside0.mk ((by rw [hg]; exact Nat.ne_of_lt (blk_lt (g := gb102) (o := .cells #[.int .i64 a0_0, .int .i64 a0_1, .int .i64 a0_2, .int .i64 a0_3, .int .i64 a0_4, .int .i64 a0_5, .int .i64 a0_6, .int .i64 a0_7, .int .i64 a0_8, .int .i64 a0_9, .int .i64 a0_10, .int .i64 a0_11] 24 (0, 0)) (by (with_reducible repeat (first | refine blk_drewN ?_ _ | refine blk_drew ?_ | refine blk_alloc ?_ _)); exact BK102.out)) : gb102 ≠ gb111)); have n6_ := Aside0.mk ((by rw [hg]; exact Nat.ne_of_gt (blk_lt (g := gb102) (o := .cells #[.int .i64 a0_0, .int .i64 a0_1, .int .i64 a0_2, .int .i64 a0_3, .int .i64 a0_4, .int .i64 a0_5, .int .i64 a0_6, .int .i64 a0_7, .int .i64 a0_8, .int .i64 a0_9, .int .i64 a0_10, .int .i64 a0_11] 24 (0, 0)) (by (with_reducible repeat (first | refine blk_drewN ?_ _ | refine blk_drew ?_ | refine blk_alloc ?_ _)); exact BK102.out)) : gb111 ≠ gb102)); clear BK102; clear HB; have BK102 := n0_; have HB := n1_; have BK111 := n2_; have GW111 := n3_; have GE111 := n4_; have NB102_111 := n5_; have NB111_102 := n6_; clear n0_ n1_ n2_ n3_ n4_ n5_ n6_; clear hb hbox hg; have hnb34 := NB111_102.out; have hnc34 := NB102_111.out; have q_ := cells12 BK111.out; have hcz35_0 := q_.c0; have hcz35_1 := q_.c1; have hcz35_2 := q_.c2; have hcz35_3 := q_.c3; have hcz35_4 := q_.c4; have hcz35_5 := q_.c5; have hcz35_6 := q_.c6; have hcz35_7 := q_.c7; have hcz35_8 := q_.c8; have hcz35_9 := q_.c9; have hcz35_10 := q_.c10; have hcz35_11 := q_.c11; have hfz35_0 := q_.f0; have hfz35_1 := q_.f1; have hfz35_2 := q_.f2; have hfz35_3 := q_.f3; have hfz35_4 := q_.f4; have hfz35_5 := q_.f5; have hfz35_6 := q_.f6; have hfz35_7 := q_.f7; have hfz35_8 := q_.f8; have hfz35_9 := q_.f9; have hfz35_10 := q_.f10; have hfz35_11 := q_.f11; clear q_; have q_ := cells12 BK102.out; have hcz36_0 := q_.c0; have hcz36_1 := q_.c1; have hcz36_2 := q_.c2; have hcz36_3 := q_.c3; have hcz36_4 := q_.c4; have hcz36_5 := q_.c5; have hcz36_6 := q_.c6; have hcz36_7 := q_.c7; have hcz36_8 := q_.c8; have hcz36_9 := q_.c9; have hcz36_10 := q_.c10; have hcz36_11 := q_.c11; have hfz36_0 := q_.f0; have hfz36_1 := q_.f1; have hfz36_2 := q_.f2; have hfz36_3 := q_.f3; have hfz36_4 := q_.f4; have hfz36_5 := q_.f5; have hfz36_6 := q_.f6; have hfz36_7 := q_.f7; have hfz36_8 := q_.f8; have hfz36_9 := q_.f9; have hfz36_10 := q_.f10; have hfz36_11 := q_.f11; clear q_))
     go_ret
     exact ⟨by first | rfl | (simp [errW_none, errW_some] <;> rfl) | (simp [*, errW_none, errW_some] <;> rfl), by repeat (first | (with_reducible first | exact HB.out | apply below_alloc | apply pw_below_drewN | apply below_drew1 | refine below_set ?_ GE102.out | refine below_set ?_ GE111.out) | exact HB.out)⟩
    ·rw [if_neg c31] at H
     have c31b0 : (a0_0 == 0) = false := beq_eq_false_iff_ne.mpr c31
     have c31b1 : (a0_0 != 0) = true := bne_iff_ne.mpr c31
     by_cases c37 : a0_0 = 2
     ·rw [if_pos c37] at H
      have c37b0 : (a0_0 == 2) = true := beq_iff_eq.mpr c37
      have c37b1 : (a0_0 != 2) = false := bne_eq_false_iff_eq.mpr c37
      clear c37
      by_cases c38 : (Int.tmod a0_2 256) = 0
      ·rw [if_pos c38] at H
       have c38b0 : ((Int.tmod a0_2 256) == 0) = true := beq_iff_eq.mpr c38
       have c38b1 : ((Int.tmod a0_2 256) != 0) = false := bne_eq_false_iff_eq.mpr c38
       clear c38
       replace H := Option.bind_eq_some_iff.mp H
       obtain ⟨t114, A390, H⟩ := H
       replace H : (some t114) = some r := H
       have A39 := Aside0.mk A390
       clear A390
       obtain rfl := Option.some.inj H
       have q_ := cells12 BK102.out; have hcz40_0 := q_.c0; have hcz40_1 := q_.c1; have hcz40_2 := q_.c2; have hcz40_3 := q_.c3; have hcz40_4 := q_.c4; have hcz40_5 := q_.c5; have hcz40_6 := q_.c6; have hcz40_7 := q_.c7; have hcz40_8 := q_.c8; have hcz40_9 := q_.c9; have hcz40_10 := q_.c10; have hcz40_11 := q_.c11; have hfz40_0 := q_.f0; have hfz40_1 := q_.f1; have hfz40_2 := q_.f2; have hfz40_3 := q_.f3; have hfz40_4 := q_.f4; have hfz40_5 := q_.f5; have hfz40_6 := q_.f6; have hfz40_7 := q_.f7; have hfz40_8 := q_.f8; have hfz40_9 := q_.f9; have hfz40_10 := q_.f10; have hfz40_11 := q_.f11; clear q_
       go_wp2_with (first | ((with_reducible refine gate_callee (f := 33) rfl ?_); refine goesL_ (some 37) rfl rfl Try.func33 (by kernel_rfl) rfl #[.agg #[.int .i64 a0_0, .int .i64 a0_1, .int .i64 a0_2, .int .i64 a0_3, .int .i64 a0_4, .int .i64 a0_5, .int .i64 a0_6, .int .i64 a0_7, .int .i64 a0_8, .int .i64 a0_9, .int .i64 a0_10, .int .i64 a0_11]] rfl (by (try simp only [List.map_toArray, List.map_cons, List.map_nil]); first | done | rfl | (simp only [List.length_drop, List.length_take]; rfl)) ?_; (with_reducible refine (inode_sized.calls a0_0 a0_1 a0_2 a0_3 a0_4 a0_5 a0_6 a0_7 a0_8 a0_9 a0_10 a0_11 t114 _ A39.out).mono ?_); rintro e w41 ⟨rfl, hb⟩; refine ⟨_, rfl, ?_⟩; have n0_ := Aside0.mk (blk_below (g := gb102) (o := .cells #[.int .i64 a0_0, .int .i64 a0_1, .int .i64 a0_2, .int .i64 a0_3, .int .i64 a0_4, .int .i64 a0_5, .int .i64 a0_6, .int .i64 a0_7, .int .i64 a0_8, .int .i64 a0_9, .int .i64 a0_10, .int .i64 a0_11] 24 (0, 0)) (by (with_reducible repeat (first | refine blk_drewN ?_ _ | refine blk_drew ?_ | refine blk_alloc ?_ _)); exact BK102.out) hb); have n1_ := Aside0.mk (below_step (by repeat (first | (with_reducible first | exact HB.out | apply below_alloc | apply pw_below_drewN | apply below_drew1 | refine below_set ?_ GE102.out) | exact HB.out)) hb); clear BK102; clear HB; have BK102 := n0_; have HB := n1_; clear n0_ n1_; (try clear hb); (try clear hb2); (try clear hk); (try clear hi)))
       go_ret
       exact ⟨by first | rfl | (simp [errW_none, errW_some] <;> rfl) | (simp [*, errW_none, errW_some] <;> rfl), by repeat (first | (with_reducible first | exact HB.out | apply below_alloc | apply pw_below_drewN | apply below_drew1 | refine below_set ?_ GE102.out) | exact HB.out)⟩
      ·rw [if_neg c38] at H
       have c38b0 : ((Int.tmod a0_2 256) == 0) = false := beq_eq_false_iff_ne.mpr c38
       have c38b1 : ((Int.tmod a0_2 256) != 0) = true := bne_iff_ne.mpr c38
       obtain rfl := Option.some.inj H
       have q_ := cells12 BK102.out; have hcz42_0 := q_.c0; have hcz42_1 := q_.c1; have hcz42_2 := q_.c2; have hcz42_3 := q_.c3; have hcz42_4 := q_.c4; have hcz42_5 := q_.c5; have hcz42_6 := q_.c6; have hcz42_7 := q_.c7; have hcz42_8 := q_.c8; have hcz42_9 := q_.c9; have hcz42_10 := q_.c10; have hcz42_11 := q_.c11; have hfz42_0 := q_.f0; have hfz42_1 := q_.f1; have hfz42_2 := q_.f2; have hfz42_3 := q_.f3; have hfz42_4 := q_.f4; have hfz42_5 := q_.f5; have hfz42_6 := q_.f6; have hfz42_7 := q_.f7; have hfz42_8 := q_.f8; have hfz42_9 := q_.f9; have hfz42_10 := q_.f10; have hfz42_11 := q_.f11; clear q_
       go_wp2
       go_ret
       exact ⟨by first | rfl | (simp [errW_none, errW_some] <;> rfl) | (simp [*, errW_none, errW_some] <;> rfl), by repeat (first | (with_reducible first | exact HB.out | apply below_alloc | apply pw_below_drewN | apply below_drew1 | refine below_set ?_ GE102.out) | exact HB.out)⟩
     ·rw [if_neg c37] at H
      have c37b0 : (a0_0 == 2) = false := beq_eq_false_iff_ne.mpr c37
      have c37b1 : (a0_0 != 2) = true := bne_iff_ne.mpr c37
      by_cases c43 : a0_0 = 1
      ·rw [if_pos c43] at H
       have c43b0 : (a0_0 == 1) = true := beq_iff_eq.mpr c43
       have c43b1 : (a0_0 != 1) = false := bne_eq_false_iff_eq.mpr c43
       clear c43
       replace H := Option.bind_eq_some_iff.mp H
       obtain ⟨t112, A440, H⟩ := H
       replace H : (some t112) = some r := H
       have A44 := Aside0.mk A440
       clear A440
       obtain rfl := Option.some.inj H
       have q_ := cells12 BK102.out; have hcz45_0 := q_.c0; have hcz45_1 := q_.c1; have hcz45_2 := q_.c2; have hcz45_3 := q_.c3; have hcz45_4 := q_.c4; have hcz45_5 := q_.c5; have hcz45_6 := q_.c6; have hcz45_7 := q_.c7; have hcz45_8 := q_.c8; have hcz45_9 := q_.c9; have hcz45_10 := q_.c10; have hcz45_11 := q_.c11; have hfz45_0 := q_.f0; have hfz45_1 := q_.f1; have hfz45_2 := q_.f2; have hfz45_3 := q_.f3; have hfz45_4 := q_.f4; have hfz45_5 := q_.f5; have hfz45_6 := q_.f6; have hfz45_7 := q_.f7; have hfz45_8 := q_.f8; have hfz45_9 := q_.f9; have hfz45_10 := q_.f10; have hfz45_11 := q_.f11; clear q_
       go_wp2_with (first | ((with_reducible refine gate_callee (f := 33) rfl ?_); refine goesL_ (some 37) rfl rfl Try.func33 (by kernel_rfl) rfl #[.agg #[.int .i64 a0_0, .int .i64 a0_1, .int .i64 a0_2, .int .i64 a0_3, .int .i64 a0_4, .int .i64 a0_5, .int .i64 a0_6, .int .i64 a0_7, .int .i64 a0_8, .int .i64 a0_9, .int .i64 a0_10, .int .i64 a0_11]] rfl (by (try simp only [List.map_toArray, List.map_cons, List.map_nil]); first | done | rfl | (simp only [List.length_drop, List.length_take]; rfl)) ?_; (with_reducible refine (inode_sized.calls a0_0 a0_1 a0_2 a0_3 a0_4 a0_5 a0_6 a0_7 a0_8 a0_9 a0_10 a0_11 t112 _ A44.out).mono ?_); rintro e w46 ⟨rfl, hb⟩; refine ⟨_, rfl, ?_⟩; have n0_ := Aside0.mk (blk_below (g := gb102) (o := .cells #[.int .i64 a0_0, .int .i64 a0_1, .int .i64 a0_2, .int .i64 a0_3, .int .i64 a0_4, .int .i64 a0_5, .int .i64 a0_6, .int .i64 a0_7, .int .i64 a0_8, .int .i64 a0_9, .int .i64 a0_10, .int .i64 a0_11] 24 (0, 0)) (by (with_reducible repeat (first | refine blk_drewN ?_ _ | refine blk_drew ?_ | refine blk_alloc ?_ _)); exact BK102.out) hb); have n1_ := Aside0.mk (below_step (by repeat (first | (with_reducible first | exact HB.out | apply below_alloc | apply pw_below_drewN | apply below_drew1 | refine below_set ?_ GE102.out) | exact HB.out)) hb); clear BK102; clear HB; have BK102 := n0_; have HB := n1_; clear n0_ n1_; (try clear hb); (try clear hb2); (try clear hk); (try clear hi)))
       go_ret
       exact ⟨by first | rfl | (simp [errW_none, errW_some] <;> rfl) | (simp [*, errW_none, errW_some] <;> rfl), by repeat (first | (with_reducible first | exact HB.out | apply below_alloc | apply pw_below_drewN | apply below_drew1 | refine below_set ?_ GE102.out) | exact HB.out)⟩
      ·rw [if_neg c43] at H
       have c43b0 : (a0_0 == 1) = false := beq_eq_false_iff_ne.mpr c43
       have c43b1 : (a0_0 != 1) = true := bne_iff_ne.mpr c43
       by_cases c47 : a0_0 = 3
       ·rw [if_pos c47] at H
        have c47b0 : (a0_0 == 3) = true := beq_iff_eq.mpr c47
        have c47b1 : (a0_0 != 3) = false := bne_eq_false_iff_eq.mpr c47
        clear c47
        replace H := Option.bind_eq_some_iff.mp H
        obtain ⟨t113, A480, H⟩ := H
        replace H : (if t113 = true then (if a0_2 ≥ 1 then (some (decide (a0_2 ≤ 255))) else (some false)) else (some false)) = some r := H
        have A48 := Aside0.mk A480
        clear A480
        by_cases c49 : t113 = true
        ·subst c49
         have H1 : (if a0_2 ≥ 1 then (some (decide (a0_2 ≤ 255))) else (some false)) = some r := by rw [if_pos rfl] at H; exact H
         clear H
         have H := H1
         clear H1
         by_cases c50 : a0_2 ≥ 1
         ·rw [if_pos c50] at H
          have c50b0 : decide (1 ≤ a0_2) = true := decide_eq_true c50
          clear c50
          obtain rfl := Option.some.inj H
          have q_ := cells12 BK102.out; have hcz51_0 := q_.c0; have hcz51_1 := q_.c1; have hcz51_2 := q_.c2; have hcz51_3 := q_.c3; have hcz51_4 := q_.c4; have hcz51_5 := q_.c5; have hcz51_6 := q_.c6; have hcz51_7 := q_.c7; have hcz51_8 := q_.c8; have hcz51_9 := q_.c9; have hcz51_10 := q_.c10; have hcz51_11 := q_.c11; have hfz51_0 := q_.f0; have hfz51_1 := q_.f1; have hfz51_2 := q_.f2; have hfz51_3 := q_.f3; have hfz51_4 := q_.f4; have hfz51_5 := q_.f5; have hfz51_6 := q_.f6; have hfz51_7 := q_.f7; have hfz51_8 := q_.f8; have hfz51_9 := q_.f9; have hfz51_10 := q_.f10; have hfz51_11 := q_.f11; clear q_
          go_wp2_with (first | ((with_reducible refine gate_callee (f := 33) rfl ?_); refine goesL_ (some 39) rfl rfl Try.func33 (by kernel_rfl) rfl #[.agg #[.int .i64 a0_0, .int .i64 a0_1, .int .i64 a0_2, .int .i64 a0_3, .int .i64 a0_4, .int .i64 a0_5, .int .i64 a0_6, .int .i64 a0_7, .int .i64 a0_8, .int .i64 a0_9, .int .i64 a0_10, .int .i64 a0_11]] rfl (by (try simp only [List.map_toArray, List.map_cons, List.map_nil]); first | done | rfl | (simp only [List.length_drop, List.length_take]; rfl)) ?_; (with_reducible refine (inode_sized.calls a0_0 a0_1 a0_2 a0_3 a0_4 a0_5 a0_6 a0_7 a0_8 a0_9 a0_10 a0_11 true _ A48.out).mono ?_); rintro e w52 ⟨rfl, hb⟩; refine ⟨_, rfl, ?_⟩; have n0_ := Aside0.mk (blk_below (g := gb102) (o := .cells #[.int .i64 a0_0, .int .i64 a0_1, .int .i64 a0_2, .int .i64 a0_3, .int .i64 a0_4, .int .i64 a0_5, .int .i64 a0_6, .int .i64 a0_7, .int .i64 a0_8, .int .i64 a0_9, .int .i64 a0_10, .int .i64 a0_11] 24 (0, 0)) (by (with_reducible repeat (first | refine blk_drewN ?_ _ | refine blk_drew ?_ | refine blk_alloc ?_ _)); exact BK102.out) hb); have n1_ := Aside0.mk (below_step (by repeat (first | (with_reducible first | exact HB.out | apply below_alloc | apply pw_below_drewN | apply below_drew1 | refine below_set ?_ GE102.out) | exact HB.out)) hb); clear BK102; clear HB; have BK102 := n0_; have HB := n1_; clear n0_ n1_; (try clear hb); (try clear hb2); (try clear hk); (try clear hi); have q_ := cells12 BK102.out; have hcz53_0 := q_.c0; have hcz53_1 := q_.c1; have hcz53_2 := q_.c2; have hcz53_3 := q_.c3; have hcz53_4 := q_.c4; have hcz53_5 := q_.c5; have hcz53_6 := q_.c6; have hcz53_7 := q_.c7; have hcz53_8 := q_.c8; have hcz53_9 := q_.c9; have hcz53_10 := q_.c10; have hcz53_11 := q_.c11; have hfz53_0 := q_.f0; have hfz53_1 := q_.f1; have hfz53_2 := q_.f2; have hfz53_3 := q_.f3; have hfz53_4 := q_.f4; have hfz53_5 := q_.f5; have hfz53_6 := q_.f6; have hfz53_7 := q_.f7; have hfz53_8 := q_.f8; have hfz53_9 := q_.f9; have hfz53_10 := q_.f10; have hfz53_11 := q_.f11; clear q_))
          go_ret
          exact ⟨by first | rfl | (simp [errW_none, errW_some] <;> rfl) | (simp [*, errW_none, errW_some] <;> rfl), by repeat (first | (with_reducible first | exact HB.out | apply below_alloc | apply pw_below_drewN | apply below_drew1 | refine below_set ?_ GE102.out) | exact HB.out)⟩
         ·rw [if_neg c50] at H
          have c50b0 : decide (1 ≤ a0_2) = false := decide_eq_false c50
          clear c50
          obtain rfl := Option.some.inj H
          have q_ := cells12 BK102.out; have hcz54_0 := q_.c0; have hcz54_1 := q_.c1; have hcz54_2 := q_.c2; have hcz54_3 := q_.c3; have hcz54_4 := q_.c4; have hcz54_5 := q_.c5; have hcz54_6 := q_.c6; have hcz54_7 := q_.c7; have hcz54_8 := q_.c8; have hcz54_9 := q_.c9; have hcz54_10 := q_.c10; have hcz54_11 := q_.c11; have hfz54_0 := q_.f0; have hfz54_1 := q_.f1; have hfz54_2 := q_.f2; have hfz54_3 := q_.f3; have hfz54_4 := q_.f4; have hfz54_5 := q_.f5; have hfz54_6 := q_.f6; have hfz54_7 := q_.f7; have hfz54_8 := q_.f8; have hfz54_9 := q_.f9; have hfz54_10 := q_.f10; have hfz54_11 := q_.f11; clear q_
          go_wp2_with (first | ((with_reducible refine gate_callee (f := 33) rfl ?_); refine goesL_ (some 39) rfl rfl Try.func33 (by kernel_rfl) rfl #[.agg #[.int .i64 a0_0, .int .i64 a0_1, .int .i64 a0_2, .int .i64 a0_3, .int .i64 a0_4, .int .i64 a0_5, .int .i64 a0_6, .int .i64 a0_7, .int .i64 a0_8, .int .i64 a0_9, .int .i64 a0_10, .int .i64 a0_11]] rfl (by (try simp only [List.map_toArray, List.map_cons, List.map_nil]); first | done | rfl | (simp only [List.length_drop, List.length_take]; rfl)) ?_; (with_reducible refine (inode_sized.calls a0_0 a0_1 a0_2 a0_3 a0_4 a0_5 a0_6 a0_7 a0_8 a0_9 a0_10 a0_11 true _ A48.out).mono ?_); rintro e w55 ⟨rfl, hb⟩; refine ⟨_, rfl, ?_⟩; have n0_ := Aside0.mk (blk_below (g := gb102) (o := .cells #[.int .i64 a0_0, .int .i64 a0_1, .int .i64 a0_2, .int .i64 a0_3, .int .i64 a0_4, .int .i64 a0_5, .int .i64 a0_6, .int .i64 a0_7, .int .i64 a0_8, .int .i64 a0_9, .int .i64 a0_10, .int .i64 a0_11] 24 (0, 0)) (by (with_reducible repeat (first | refine blk_drewN ?_ _ | refine blk_drew ?_ | refine blk_alloc ?_ _)); exact BK102.out) hb); have n1_ := Aside0.mk (below_step (by repeat (first | (with_reducible first | exact HB.out | apply below_alloc | apply pw_below_drewN | apply below_drew1 | refine below_set ?_ GE102.out) | exact HB.out)) hb); clear BK102; clear HB; have BK102 := n0_; have HB := n1_; clear n0_ n1_; (try clear hb); (try clear hb2); (try clear hk); (try clear hi); have q_ := cells12 BK102.out; have hcz56_0 := q_.c0; have hcz56_1 := q_.c1; have hcz56_2 := q_.c2; have hcz56_3 := q_.c3; have hcz56_4 := q_.c4; have hcz56_5 := q_.c5; have hcz56_6 := q_.c6; have hcz56_7 := q_.c7; have hcz56_8 := q_.c8; have hcz56_9 := q_.c9; have hcz56_10 := q_.c10; have hcz56_11 := q_.c11; have hfz56_0 := q_.f0; have hfz56_1 := q_.f1; have hfz56_2 := q_.f2; have hfz56_3 := q_.f3; have hfz56_4 := q_.f4; have hfz56_5 := q_.f5; have hfz56_6 := q_.f6; have hfz56_7 := q_.f7; have hfz56_8 := q_.f8; have hfz56_9 := q_.f9; have hfz56_10 := q_.f10; have hfz56_11 := q_.f11; clear q_))
          go_ret
          exact ⟨by first | rfl | (simp [errW_none, errW_some] <;> rfl) | (simp [*, errW_none, errW_some] <;> rfl), by repeat (first | (with_reducible first | exact HB.out | apply below_alloc | apply pw_below_drewN | apply below_drew1 | refine below_set ?_ GE102.out) | exact HB.out)⟩
        ·replace c49 := Bool.eq_false_iff.mpr c49
         subst c49
         have H1 : (some false) = some r := by rw [if_neg (show ¬ (false = true) by decide)] at H; exact H
         clear H
         have H := H1
         clear H1
         obtain rfl := Option.some.inj H
         have q_ := cells12 BK102.out; have hcz57_0 := q_.c0; have hcz57_1 := q_.c1; have hcz57_2 := q_.c2; have hcz57_3 := q_.c3; have hcz57_4 := q_.c4; have hcz57_5 := q_.c5; have hcz57_6 := q_.c6; have hcz57_7 := q_.c7; have hcz57_8 := q_.c8; have hcz57_9 := q_.c9; have hcz57_10 := q_.c10; have hcz57_11 := q_.c11; have hfz57_0 := q_.f0; have hfz57_1 := q_.f1; have hfz57_2 := q_.f2; have hfz57_3 := q_.f3; have hfz57_4 := q_.f4; have hfz57_5 := q_.f5; have hfz57_6 := q_.f6; have hfz57_7 := q_.f7; have hfz57_8 := q_.f8; have hfz57_9 := q_.f9; have hfz57_10 := q_.f10; have hfz57_11 := q_.f11; clear q_
         go_wp2_with (first | ((with_reducible refine gate_callee (f := 33) rfl ?_); refine goesL_ (some 39) rfl rfl Try.func33 (by kernel_rfl) rfl #[.agg #[.int .i64 a0_0, .int .i64 a0_1, .int .i64 a0_2, .int .i64 a0_3, .int .i64 a0_4, .int .i64 a0_5, .int .i64 a0_6, .int .i64 a0_7, .int .i64 a0_8, .int .i64 a0_9, .int .i64 a0_10, .int .i64 a0_11]] rfl (by (try simp only [List.map_toArray, List.map_cons, List.map_nil]); first | done | rfl | (simp only [List.length_drop, List.length_take]; rfl)) ?_; (with_reducible refine (inode_sized.calls a0_0 a0_1 a0_2 a0_3 a0_4 a0_5 a0_6 a0_7 a0_8 a0_9 a0_10 a0_11 false _ A48.out).mono ?_); rintro e w58 ⟨rfl, hb⟩; refine ⟨_, rfl, ?_⟩; have n0_ := Aside0.mk (blk_below (g := gb102) (o := .cells #[.int .i64 a0_0, .int .i64 a0_1, .int .i64 a0_2, .int .i64 a0_3, .int .i64 a0_4, .int .i64 a0_5, .int .i64 a0_6, .int .i64 a0_7, .int .i64 a0_8, .int .i64 a0_9, .int .i64 a0_10, .int .i64 a0_11] 24 (0, 0)) (by (with_reducible repeat (first | refine blk_drewN ?_ _ | refine blk_drew ?_ | refine blk_alloc ?_ _)); exact BK102.out) hb); have n1_ := Aside0.mk (below_step (by repeat (first | (with_reducible first | exact HB.out | apply below_alloc | apply pw_below_drewN | apply below_drew1 | refine below_set ?_ GE102.out) | exact HB.out)) hb); clear BK102; clear HB; have BK102 := n0_; have HB := n1_; clear n0_ n1_; (try clear hb); (try clear hb2); (try clear hk); (try clear hi)))
         go_ret
         exact ⟨by first | rfl | (simp [errW_none, errW_some] <;> rfl) | (simp [*, errW_none, errW_some] <;> rfl), by repeat (first | (with_reducible first | exact HB.out | apply below_alloc | apply pw_below_drewN | apply below_drew1 | refine below_set ?_ GE102.out) | exact HB.out)⟩
       ·rw [if_neg c47] at H
        have c47b0 : (a0_0 == 3) = false := beq_eq_false_iff_ne.mpr c47
        have c47b1 : (a0_0 != 3) = true := bne_iff_ne.mpr c47
        obtain rfl := Option.some.inj H
        have q_ := cells12 BK102.out; have hcz59_0 := q_.c0; have hcz59_1 := q_.c1; have hcz59_2 := q_.c2; have hcz59_3 := q_.c3; have hcz59_4 := q_.c4; have hcz59_5 := q_.c5; have hcz59_6 := q_.c6; have hcz59_7 := q_.c7; have hcz59_8 := q_.c8; have hcz59_9 := q_.c9; have hcz59_10 := q_.c10; have hcz59_11 := q_.c11; have hfz59_0 := q_.f0; have hfz59_1 := q_.f1; have hfz59_2 := q_.f2; have hfz59_3 := q_.f3; have hfz59_4 := q_.f4; have hfz59_5 := q_.f5; have hfz59_6 := q_.f6; have hfz59_7 := q_.f7; have hfz59_8 := q_.f8; have hfz59_9 := q_.f9; have hfz59_10 := q_.f10; have hfz59_11 := q_.f11; clear q_
        go_wp2
        go_ret
        exact ⟨by first | rfl | (simp [errW_none, errW_some] <;> rfl) | (simp [*, errW_none, errW_some] <;> rfl), by repeat (first | (with_reducible first | exact HB.out | apply below_alloc | apply pw_below_drewN | apply below_drew1 | refine below_set ?_ GE102.out) | exact HB.out)⟩

end Go.Proofs.Ythcndfnmgggblaa.P
