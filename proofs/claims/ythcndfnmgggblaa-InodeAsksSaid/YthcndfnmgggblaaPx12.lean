-- PRINTED by print.py (a twelfth state) out of the translation. Not trusted: Lean checks it.
import Derived.Test.YthcndfnmgggblaaPx0
import Derived.Test.YthcndfnmgggblaaHand
import Derived.Test.YthcndfnmgggblaaHandInode
import Derived.Test.YthcndfnmgggblaaCells
namespace Go.Proofs.Ythcndfnmgggblaa.P
open Go.RowKit Go.Proofs.YthcndfnmgggblaaW.PrintWords Go.Proofs.YthcndfnmgggblaaW.PrintLast Go.Proofs.YthcndfnmgggblaaW.PrintMore
attribute [local go_sem] max2_int min2_int max_two min_two max_three min_three max_four min_four   -- for this text's walks alone
set_option linter.unusedVariables false
set_option linter.unusedSimpArgs false

/-! ### inode_Names: function 23 -/
def inode_Names.l0 : Nat → List Int → Int → Int → Int → Int → Int → Int → Int → Int → Int → Option (List Int)
 | 0, _, _, _, _, _, _, _, _, _, _ => none
 | k + 1, x3, x8, x700008000, x700008001, x700008002, x700008003, x700008004, x700008005, x700008006, x700008007 => if x8 < 8 then (if x8 = (0 : Int) then (if x700008000 = 0 then (inode_Names.l0 k x3 (wrap64 (x8 + 1)) x700008000 x700008001 x700008002 x700008003 x700008004 x700008005 x700008006 x700008007) else (if x3.length < 17592186044416 then (inode_Names.l0 k (x3 ++ [x700008000]) (wrap64 (x8 + 1)) x700008000 x700008001 x700008002 x700008003 x700008004 x700008005 x700008006 x700008007) else (none))) else (if x8 = (1 : Int) then (if x700008001 = 0 then (inode_Names.l0 k x3 (wrap64 (x8 + 1)) x700008000 x700008001 x700008002 x700008003 x700008004 x700008005 x700008006 x700008007) else (if x3.length < 17592186044416 then (inode_Names.l0 k (x3 ++ [x700008001]) (wrap64 (x8 + 1)) x700008000 x700008001 x700008002 x700008003 x700008004 x700008005 x700008006 x700008007) else (none))) else (if x8 = (2 : Int) then (if x700008002 = 0 then (inode_Names.l0 k x3 (wrap64 (x8 + 1)) x700008000 x700008001 x700008002 x700008003 x700008004 x700008005 x700008006 x700008007) else (if x3.length < 17592186044416 then (inode_Names.l0 k (x3 ++ [x700008002]) (wrap64 (x8 + 1)) x700008000 x700008001 x700008002 x700008003 x700008004 x700008005 x700008006 x700008007) else (none))) else (if x8 = (3 : Int) then (if x700008003 = 0 then (inode_Names.l0 k x3 (wrap64 (x8 + 1)) x700008000 x700008001 x700008002 x700008003 x700008004 x700008005 x700008006 x700008007) else (if x3.length < 17592186044416 then (inode_Names.l0 k (x3 ++ [x700008003]) (wrap64 (x8 + 1)) x700008000 x700008001 x700008002 x700008003 x700008004 x700008005 x700008006 x700008007) else (none))) else (if x8 = (4 : Int) then (if x700008004 = 0 then (inode_Names.l0 k x3 (wrap64 (x8 + 1)) x700008000 x700008001 x700008002 x700008003 x700008004 x700008005 x700008006 x700008007) else (if x3.length < 17592186044416 then (inode_Names.l0 k (x3 ++ [x700008004]) (wrap64 (x8 + 1)) x700008000 x700008001 x700008002 x700008003 x700008004 x700008005 x700008006 x700008007) else (none))) else (if x8 = (5 : Int) then (if x700008005 = 0 then (inode_Names.l0 k x3 (wrap64 (x8 + 1)) x700008000 x700008001 x700008002 x700008003 x700008004 x700008005 x700008006 x700008007) else (if x3.length < 17592186044416 then (inode_Names.l0 k (x3 ++ [x700008005]) (wrap64 (x8 + 1)) x700008000 x700008001 x700008002 x700008003 x700008004 x700008005 x700008006 x700008007) else (none))) else (if x8 = (6 : Int) then (if x700008006 = 0 then (inode_Names.l0 k x3 (wrap64 (x8 + 1)) x700008000 x700008001 x700008002 x700008003 x700008004 x700008005 x700008006 x700008007) else (if x3.length < 17592186044416 then (inode_Names.l0 k (x3 ++ [x700008006]) (wrap64 (x8 + 1)) x700008000 x700008001 x700008002 x700008003 x700008004 x700008005 x700008006 x700008007) else (none))) else (if x8 = (7 : Int) then (if x700008007 = 0 then (inode_Names.l0 k x3 (wrap64 (x8 + 1)) x700008000 x700008001 x700008002 x700008003 x700008004 x700008005 x700008006 x700008007) else (if x3.length < 17592186044416 then (inode_Names.l0 k (x3 ++ [x700008007]) (wrap64 (x8 + 1)) x700008000 x700008001 x700008002 x700008003 x700008004 x700008005 x700008006 x700008007) else (none))) else (none))))))))) else (some x3)
def inode_Names.f (k : Nat) (a0_0 : Int) (a0_1 : Int) (a0_2 : Int) (a0_3 : Int) (a0_4 : Int) (a0_5 : Int) (a0_6 : Int) (a0_7 : Int) (a0_8 : Int) (a0_9 : Int) (a0_10 : Int) (a0_11 : Int) : Option (List Int) := (inode_all.f a0_0 a0_1 a0_2 a0_3 a0_4 a0_5 a0_6 a0_7 a0_8 a0_9 a0_10 a0_11).bind fun bt224 => (inode_Names.l0 k ([] : List Int) 0 bt224.1 bt224.2.1 bt224.2.2.1 bt224.2.2.2.1 bt224.2.2.2.2.1 bt224.2.2.2.2.2.1 bt224.2.2.2.2.2.2.1 bt224.2.2.2.2.2.2.2)
theorem inode_Names.mono_l : ∀ k, (∀ y0 y1 y2 y3 y4 y5 y6 y7 y8 y9, LeO (inode_Names.l0 k y0 y1 y2 y3 y4 y5 y6 y7 y8 y9) (inode_Names.l0 (k + 1) y0 y1 y2 y3 y4 y5 y6 y7 y8 y9))
 | 0 => fun _ _ _ _ _ _ _ _ _ _ r h => by simp [inode_Names.l0] at h
 | k + 1 => by
  have ih0 := inode_Names.mono_l k
  ·intro y0 y1 y2 y3 y4 y5 y6 y7 y8 y9
   unfold inode_Names.l0
   repeat' first
   | (with_reducible exact ih0 _ _ _ _ _ _ _ _ _ _)
   | (with_reducible exact LeO.refl _)
   | (with_reducible exact LeO.none _)
   | (with_reducible refine LeO.ite ?_ ?_)
   | (with_reducible refine LeO.bind ?_ (fun _ => ?_))
   | exact ih0 _ _ _ _ _ _ _ _ _ _
   | exact LeO.none _
   | refine LeO.ite ?_ ?_
   | refine LeO.bind ?_ (fun _ => ?_)
theorem inode_Names.mono : ∀ a0 a1 a2 a3 a4 a5 a6 a7 a8 a9 a10 a11 k, LeO (inode_Names.f k a0 a1 a2 a3 a4 a5 a6 a7 a8 a9 a10 a11) (inode_Names.f (k + 1) a0 a1 a2 a3 a4 a5 a6 a7 a8 a9 a10 a11) := by
 intro a0 a1 a2 a3 a4 a5 a6 a7 a8 a9 a10 a11 k
 have ih0 := inode_Names.mono_l k
 unfold inode_Names.f
 repeat' first
   | (with_reducible exact ih0 _ _ _ _ _ _ _ _ _ _)
   | (with_reducible exact LeO.refl _)
   | (with_reducible exact LeO.none _)
   | (with_reducible refine LeO.ite ?_ ?_)
   | (with_reducible refine LeO.bind ?_ (fun _ => ?_))
   | exact ih0 _ _ _ _ _ _ _ _ _ _
   | exact LeO.none _
   | refine LeO.ite ?_ ?_
   | refine LeO.bind ?_ (fun _ => ?_)
set_option maxHeartbeats 8000000 in
set_option maxRecDepth 100000 in
theorem inode_Names.calls (k : Nat) (a0_0 : Int) (a0_1 : Int) (a0_2 : Int) (a0_3 : Int) (a0_4 : Int) (a0_5 : Int) (a0_6 : Int) (a0_7 : Int) (a0_8 : Int) (a0_9 : Int) (a0_10 : Int) (a0_11 : Int) (r : List Int) (w : World) (h : inode_Names.f k a0_0 a0_1 a0_2 a0_3 a0_4 a0_5 a0_6 a0_7 a0_8 a0_9 a0_10 a0_11 = some r) :
  Calls Try.prog 23 #[.agg #[.int .i64 a0_0, .int .i64 a0_1, .int .i64 a0_2, .int .i64 a0_3, .int .i64 a0_4, .int .i64 a0_5, .int .i64 a0_6, .int .i64 a0_7, .int .i64 a0_8, .int .i64 a0_9, .int .i64 a0_10, .int .i64 a0_11]] w fun e w' => ∃ v0_ : Value, e = .returned (v0_) ∧ Kd.R (Kd.int .i64) 3 w' w.heap.size (fun _ => True) v0_ r ∧ Below w.heap.size w w' := by
 have hu24 := Try.underlying24
 have HB := Aside0.mk (Below.refl w.heap.size w)
 have H : ((inode_all.f a0_0 a0_1 a0_2 a0_3 a0_4 a0_5 a0_6 a0_7 a0_8 a0_9 a0_10 a0_11).bind fun bt224 => (inode_Names.l0 k ([] : List Int) 0 bt224.1 bt224.2.1 bt224.2.2.1 bt224.2.2.2.1 bt224.2.2.2.2.1 bt224.2.2.2.2.2.1 bt224.2.2.2.2.2.2.1 bt224.2.2.2.2.2.2.2)) = some r := h
 clear h
 replace H := Option.bind_eq_some_iff.mp H
 obtain ⟨⟨t224, t225, t226, t227, t228, t229, t230, t231⟩, A20, H⟩ := H
 replace H : (inode_Names.l0 k ([] : List Int) 0 t224 t225 t226 t227 t228 t229 t230 t231) = some r := H
 have A2 := Aside0.mk A20
 clear A20
 have H' := Aside0.mk H
 clear H
 go_enter Try.func23, Try.ntmps23
 go_wp2_with (first | ((with_reducible refine gate_dst (N := 1) rfl ?_); refine box_event ?hg (N := 1) ?hd (cs := #[.int .i64 a0_0, .int .i64 a0_1, .int .i64 a0_2, .int .i64 a0_3, .int .i64 a0_4, .int .i64 a0_5, .int .i64 a0_6, .int .i64 a0_7, .int .i64 a0_8, .int .i64 a0_9, .int .i64 a0_10, .int .i64 a0_11]) (t := 24) ?hr ?_; (case hd => rfl); (case hg => rfl); (case hr => first | (go_simp; done) | (go_simp; rfl)); intro gb223 hg w3 hbox hb; have n0_ := Aside0.mk (below_step (by repeat (first | (with_reducible first | exact HB.out | apply below_alloc | apply pw_below_drewN | apply below_drew1) | exact HB.out)) hb); have n1_ := Aside0.mk (hbox); have n2_ := Aside0.mk ((by rw [hg]; exact (below_size (by repeat (first | (with_reducible first | exact HB.out | apply below_alloc | apply pw_below_drewN | apply below_drew1) | exact HB.out))) : w.heap.size ≤ gb223)); have n3_ := Aside0.mk ((by rw [hg]; exact (below_size (by repeat (first | (with_reducible first | exact HB.out | apply below_alloc | apply pw_below_drewN | apply below_drew1) | exact HB.out))) : w.heap.size ≤ gb223)); clear HB; have HB := n0_; have BK223 := n1_; have GW223 := n2_; have GE223 := n3_; clear n0_ n1_ n2_ n3_; clear hb hbox hg; have q_ := cells12 BK223.out; have hcz4_0 := q_.c0; have hcz4_1 := q_.c1; have hcz4_2 := q_.c2; have hcz4_3 := q_.c3; have hcz4_4 := q_.c4; have hcz4_5 := q_.c5; have hcz4_6 := q_.c6; have hcz4_7 := q_.c7; have hcz4_8 := q_.c8; have hcz4_9 := q_.c9; have hcz4_10 := q_.c10; have hcz4_11 := q_.c11; have hfz4_0 := q_.f0; have hfz4_1 := q_.f1; have hfz4_2 := q_.f2; have hfz4_3 := q_.f3; have hfz4_4 := q_.f4; have hfz4_5 := q_.f5; have hfz4_6 := q_.f6; have hfz4_7 := q_.f7; have hfz4_8 := q_.f8; have hfz4_9 := q_.f9; have hfz4_10 := q_.f10; have hfz4_11 := q_.f11; clear q_) | ((with_reducible refine gate_callee (f := 28) rfl ?_); refine goesL_ (some 7) rfl rfl Try.func28 (by kernel_rfl) rfl #[.agg #[.int .i64 a0_0, .int .i64 a0_1, .int .i64 a0_2, .int .i64 a0_3, .int .i64 a0_4, .int .i64 a0_5, .int .i64 a0_6, .int .i64 a0_7, .int .i64 a0_8, .int .i64 a0_9, .int .i64 a0_10, .int .i64 a0_11]] rfl (by (try simp only [List.map_toArray, List.map_cons, List.map_nil]); first | done | rfl | (simp only [List.length_drop, List.length_take]; rfl)) ?_; (with_reducible refine (inode_all.calls a0_0 a0_1 a0_2 a0_3 a0_4 a0_5 a0_6 a0_7 a0_8 a0_9 a0_10 a0_11 t224 t225 t226 t227 t228 t229 t230 t231 _ A2.out).mono ?_); rintro e w5 ⟨rfl, hb⟩; refine ⟨_, rfl, ?_⟩; have n0_ := Aside0.mk (blk_below (g := gb223) (o := .cells #[.int .i64 a0_0, .int .i64 a0_1, .int .i64 a0_2, .int .i64 a0_3, .int .i64 a0_4, .int .i64 a0_5, .int .i64 a0_6, .int .i64 a0_7, .int .i64 a0_8, .int .i64 a0_9, .int .i64 a0_10, .int .i64 a0_11] 24 (0, 0)) (by (with_reducible repeat (first | refine blk_drewN ?_ _ | refine blk_drew ?_ | refine blk_alloc ?_ _)); exact BK223.out) hb); have n1_ := Aside0.mk (below_step (by repeat (first | (with_reducible first | exact HB.out | apply below_alloc | apply pw_below_drewN | apply below_drew1 | refine below_set ?_ GE223.out) | exact HB.out)) hb); clear BK223; clear HB; have BK223 := n0_; have HB := n1_; clear n0_ n1_; (try clear hb); (try clear hb2); (try clear hk); (try clear hi)))
 go_loopg [3, 8] k (fun kq v3 v8 w' => ∃ (x3_1 : List Int) (x8_1 : Int), v8 = .int .i64 x8_1 ∧ Aside0 (inode_Names.l0 kq x3_1 x8_1 t224 t225 t226 t227 t228 t229 t230 t231 = some r) ∧ Aside0 (kq ≤ k) ∧ Aside0 (Kd.R (Kd.int .i64) 3 w' w.heap.size (fun _ => True) v3 x3_1) ∧ Aside0 (w'.heap[gb223]? = some (.cells #[.int .i64 a0_0, .int .i64 a0_1, .int .i64 a0_2, .int .i64 a0_3, .int .i64 a0_4, .int .i64 a0_5, .int .i64 a0_6, .int .i64 a0_7, .int .i64 a0_8, .int .i64 a0_9, .int .i64 a0_10, .int .i64 a0_11] 24 (0, 0))) ∧ Aside0 (Below w.heap.size w w'))
 case atStart => exact ⟨(([] : List Int)), (0), (by first | rfl | (simp; done) | (simp [*]; done)), H', ⟨Nat.le_refl _⟩, ⟨by first | exact Kd.R_nil _ _ _ _ _ | exact Kd.N_nil _ _ _ _ _ | exact Kd.V_nil _ _ _ _ _ | exact Kd.Q_nil _ _ _ _ _ | exact Kd.S_nil _ _ _ _ _⟩, ⟨by (with_reducible repeat (first | refine blk_drewN ?_ _ | refine blk_drew ?_ | refine blk_alloc ?_ _)); exact BK223.out⟩, ⟨by repeat (first | (with_reducible first | exact HB.out | apply below_alloc | apply pw_below_drewN | apply below_drew1 | refine below_set ?_ GE223.out) | exact HB.out)⟩⟩
 case round =>
  clear H'
  try clear c2
  try clear p2
  try clear hcz4_0 hcz4_1 hcz4_10 hcz4_11 hcz4_2 hcz4_3 hcz4_4 hcz4_5 hcz4_6 hcz4_7 hcz4_8 hcz4_9
  try clear hfz4_0 hfz4_1 hfz4_10 hfz4_11 hfz4_2 hfz4_3 hfz4_4 hfz4_5 hfz4_6 hfz4_7 hfz4_8 hfz4_9
  obtain ⟨x3_1, x8_1, rfl, HA, HK1, HO_3, BK223, HB⟩ := hrel
  cases gk with
  | zero => exact absurd HA.out (by simp [inode_Names.l0])
  | succ k1 =>
   have H := HA.out
   clear HA
   simp only [inode_Names.l0] at H
   by_cases c6 : x8_1 < 8
   ·rw [if_pos c6] at H
    have c6b0 : decide (x8_1 < 8) = true := decide_eq_true c6
    clear c6
    by_cases c7 : x8_1 = (0 : Int)
    ·rw [if_pos c7] at H
     have c7z := Aside0.mk c7
     (try (have c7i : ∀ (t_ : TypeId) (v_ : Value), Instr.index t_ v_ (.int .i64 x8_1) = Instr.index t_ v_ (.int .i64 0) := fun _ _ => by rw [c7]))
     (try (have c7a : ∀ (t_ : TypeId) (v_ : Value), Instr.indexAt t_ v_ (.int .i64 x8_1) = Instr.indexAt t_ v_ (.int .i64 0) := fun _ _ => by rw [c7]))
     (try (have c7j22 : ∀ (W_ : World) (v0_ v1_ v2_ v3_ v4_ v5_ : Value), (Instr.index 22 (.agg #[v0_, v1_, v2_, v3_, v4_, v5_]) (.int .i64 0)).run Try.prog W_ = .ok v0_ W_ := by intros; kernel_rfl))
     (try (have c7j49 : ∀ (W_ : World) (v0_ v1_ v2_ v3_ v4_ v5_ v6_ v7_ : Value), (Instr.index 49 (.agg #[v0_, v1_, v2_, v3_, v4_, v5_, v6_, v7_]) (.int .i64 0)).run Try.prog W_ = .ok v0_ W_ := by intros; kernel_rfl))
     have c7b0 : (x8_1 == (0 : Int)) = true := beq_iff_eq.mpr c7
     have c7b1 : (x8_1 != (0 : Int)) = false := bne_eq_false_iff_eq.mpr c7
     clear c7
     by_cases c8 : t224 = 0
     ·rw [if_pos c8] at H
      have c8b0 : (t224 == 0) = true := beq_iff_eq.mpr c8
      have c8b1 : (t224 != 0) = false := bne_eq_false_iff_eq.mpr c8
      clear c8
      have H' := Aside0.mk H
      clear H
      go_wp2
      go_roundg k1
      case measure => have := HK1.out; omega
      case rel => exact ⟨(x3_1), (wrap64 (x8_1 + 1)), (by first | rfl | (simp; done) | (simp [*]; done) | (have hz_ := c7z.out; congr 1; unfold wrap64; omega)), H', ⟨by have := HK1.out; omega⟩, ⟨by (with_reducible repeat (first | apply Kd.R_alloc | apply Kd.R_drewN | apply Kd.R_drew)); exact HO_3.out⟩, ⟨by (with_reducible repeat (first | refine blk_drewN ?_ _ | refine blk_drew ?_ | refine blk_alloc ?_ _)); exact BK223.out⟩, ⟨by repeat (first | (with_reducible first | exact HB.out | apply below_alloc | apply pw_below_drewN | apply below_drew1 | refine below_set ?_ GE223.out) | exact HB.out)⟩⟩
     ·rw [if_neg c8] at H
      have c8b0 : (t224 == 0) = false := beq_eq_false_iff_ne.mpr c8
      have c8b1 : (t224 != 0) = true := bne_iff_ne.mpr c8
      by_cases c9 : x3_1.length < 17592186044416
      ·rw [if_pos c9] at H
       have LMc9 := Aside0.mk c9
       clear c9
       obtain ⟨y232, hy232⟩ : ∃ y_ : List Int, y_ = (x3_1 ++ [t224]) := ⟨_, rfl⟩
       replace H : (inode_Names.l0 k1 y232 (wrap64 (x8_1 + 1)) t224 t225 t226 t227 t228 t229 t230 t231) = some r := by first | (rw [hy232]; with_reducible exact H) | (have H2_ := (Option.bind_some _ _).symm.trans H; rw [hy232]; with_reducible exact H2_) | (have H2_ := (Option.bind_some _ _).symm.trans H; with_reducible exact H2_) | with_reducible exact H | (rw [hy232]; exact H) | exact H
       have Ny232 := Aside0.mk hy232
       clear hy232
       have H' := Aside0.mk H
       clear H
       go_wp2_with (first | ((with_reducible refine gate_builtin (b := .append) (xs := #[.tmp 13, .tmp 15]) rfl ?_); at_builtin; refine Kd.R_append (Kd.int .i64) (w0 := w) w.heap.size rfl (.tmp 13) (.tmp 15) 44 3 (.int .i64 0) 8 rfl Try.underlying44 info3 rfl (by decide) (by omega) u3 x3_1 t224 [.int .i64 t224] (fun _ => True) (fun _ => False) rfl rfl ?aP (fun _ hk => hk.elim) ?aF ?aO ?aB ?aS ?aL ?_; (case aP => exact rfl); (case aB => exact (by repeat (first | (with_reducible first | exact HB.out | apply below_alloc | apply pw_below_drewN | apply below_drew1 | refine below_set ?_ GE223.out) | exact HB.out))); (case aF => exact (fun _ _ => trivial)); (case aO => exact (by (with_reducible repeat (first | apply Kd.R_alloc | apply Kd.R_drewN | apply Kd.R_drew)); exact HO_3.out)); (case aS => exact (below_size (by repeat (first | (with_reducible first | exact HB.out | apply below_alloc | apply pw_below_drewN | apply below_drew1 | refine below_set ?_ GE223.out) | exact HB.out)))); (case aL => have := LMc9.out; omega); intro v233 w10 ho hb hg hat; rw [← Ny232.out] at ho; have n0_ := Aside0.mk (blk_grown (g := gb223) (o := .cells #[.int .i64 a0_0, .int .i64 a0_1, .int .i64 a0_2, .int .i64 a0_3, .int .i64 a0_4, .int .i64 a0_5, .int .i64 a0_6, .int .i64 a0_7, .int .i64 a0_8, .int .i64 a0_9, .int .i64 a0_10, .int .i64 a0_11] 24 (0, 0)) (by (with_reducible repeat (first | refine blk_drewN ?_ _ | refine blk_drew ?_ | refine blk_alloc ?_ _)); exact BK223.out) hg (Kd.R_ne HO_3.out BK223.out (by decide))); have n1_ := Aside0.mk (hb); have n2_ := Aside0.mk (ho); clear BK223; clear HB; clear HO_3; have BK223 := n0_; have HB := n1_; have HO234 := n2_; clear n0_ n1_ n2_; clear ho hb hg hat))
       go_roundg k1
       case measure => have := HK1.out; omega
       case rel => exact ⟨(y232), (wrap64 (x8_1 + 1)), (by first | rfl | (simp; done) | (simp [*]; done) | (have hz_ := c7z.out; congr 1; unfold wrap64; omega)), H', ⟨by have := HK1.out; omega⟩, ⟨by (with_reducible repeat (first | apply Kd.R_alloc | apply Kd.R_drewN | apply Kd.R_drew)); exact HO234.out⟩, ⟨by (with_reducible repeat (first | refine blk_drewN ?_ _ | refine blk_drew ?_ | refine blk_alloc ?_ _)); exact BK223.out⟩, ⟨by repeat (first | (with_reducible first | exact HB.out | apply below_alloc | apply pw_below_drewN | apply below_drew1 | refine below_set ?_ GE223.out) | exact HB.out)⟩⟩
      ·rw [if_neg c9] at H
       exact absurd H (by simp)
    ·rw [if_neg c7] at H
     have c7b0 : (x8_1 == (0 : Int)) = false := beq_eq_false_iff_ne.mpr c7
     have c7b1 : (x8_1 != (0 : Int)) = true := bne_iff_ne.mpr c7
     by_cases c11 : x8_1 = (1 : Int)
     ·rw [if_pos c11] at H
      have c11z := Aside0.mk c11
      (try (have c11i : ∀ (t_ : TypeId) (v_ : Value), Instr.index t_ v_ (.int .i64 x8_1) = Instr.index t_ v_ (.int .i64 1) := fun _ _ => by rw [c11]))
      (try (have c11a : ∀ (t_ : TypeId) (v_ : Value), Instr.indexAt t_ v_ (.int .i64 x8_1) = Instr.indexAt t_ v_ (.int .i64 1) := fun _ _ => by rw [c11]))
      (try (have c11j22 : ∀ (W_ : World) (v0_ v1_ v2_ v3_ v4_ v5_ : Value), (Instr.index 22 (.agg #[v0_, v1_, v2_, v3_, v4_, v5_]) (.int .i64 1)).run Try.prog W_ = .ok v1_ W_ := by intros; kernel_rfl))
      (try (have c11j49 : ∀ (W_ : World) (v0_ v1_ v2_ v3_ v4_ v5_ v6_ v7_ : Value), (Instr.index 49 (.agg #[v0_, v1_, v2_, v3_, v4_, v5_, v6_, v7_]) (.int .i64 1)).run Try.prog W_ = .ok v1_ W_ := by intros; kernel_rfl))
      have c11b0 : (x8_1 == (1 : Int)) = true := beq_iff_eq.mpr c11
      have c11b1 : (x8_1 != (1 : Int)) = false := bne_eq_false_iff_eq.mpr c11
      clear c11
      by_cases c12 : t225 = 0
      ·rw [if_pos c12] at H
       have c12b0 : (t225 == 0) = true := beq_iff_eq.mpr c12
       have c12b1 : (t225 != 0) = false := bne_eq_false_iff_eq.mpr c12
       clear c12
       have H' := Aside0.mk H
       clear H
       go_wp2
       go_roundg k1
       case measure => have := HK1.out; omega
       case rel => exact ⟨(x3_1), (wrap64 (x8_1 + 1)), (by first | rfl | (simp; done) | (simp [*]; done) | (have hz_ := c11z.out; congr 1; unfold wrap64; omega)), H', ⟨by have := HK1.out; omega⟩, ⟨by (with_reducible repeat (first | apply Kd.R_alloc | apply Kd.R_drewN | apply Kd.R_drew)); exact HO_3.out⟩, ⟨by (with_reducible repeat (first | refine blk_drewN ?_ _ | refine blk_drew ?_ | refine blk_alloc ?_ _)); exact BK223.out⟩, ⟨by repeat (first | (with_reducible first | exact HB.out | apply below_alloc | apply pw_below_drewN | apply below_drew1 | refine below_set ?_ GE223.out) | exact HB.out)⟩⟩
      ·rw [if_neg c12] at H
       have c12b0 : (t225 == 0) = false := beq_eq_false_iff_ne.mpr c12
       have c12b1 : (t225 != 0) = true := bne_iff_ne.mpr c12
       by_cases c13 : x3_1.length < 17592186044416
       ·rw [if_pos c13] at H
        have LMc13 := Aside0.mk c13
        clear c13
        obtain ⟨y235, hy235⟩ : ∃ y_ : List Int, y_ = (x3_1 ++ [t225]) := ⟨_, rfl⟩
        replace H : (inode_Names.l0 k1 y235 (wrap64 (x8_1 + 1)) t224 t225 t226 t227 t228 t229 t230 t231) = some r := by first | (rw [hy235]; with_reducible exact H) | (have H2_ := (Option.bind_some _ _).symm.trans H; rw [hy235]; with_reducible exact H2_) | (have H2_ := (Option.bind_some _ _).symm.trans H; with_reducible exact H2_) | with_reducible exact H | (rw [hy235]; exact H) | exact H
        have Ny235 := Aside0.mk hy235
        clear hy235
        have H' := Aside0.mk H
        clear H
        go_wp2_with (first | ((with_reducible refine gate_builtin (b := .append) (xs := #[.tmp 13, .tmp 15]) rfl ?_); at_builtin; refine Kd.R_append (Kd.int .i64) (w0 := w) w.heap.size rfl (.tmp 13) (.tmp 15) 44 3 (.int .i64 0) 8 rfl Try.underlying44 info3 rfl (by decide) (by omega) u3 x3_1 t225 [.int .i64 t225] (fun _ => True) (fun _ => False) rfl rfl ?aP (fun _ hk => hk.elim) ?aF ?aO ?aB ?aS ?aL ?_; (case aP => exact rfl); (case aB => exact (by repeat (first | (with_reducible first | exact HB.out | apply below_alloc | apply pw_below_drewN | apply below_drew1 | refine below_set ?_ GE223.out) | exact HB.out))); (case aF => exact (fun _ _ => trivial)); (case aO => exact (by (with_reducible repeat (first | apply Kd.R_alloc | apply Kd.R_drewN | apply Kd.R_drew)); exact HO_3.out)); (case aS => exact (below_size (by repeat (first | (with_reducible first | exact HB.out | apply below_alloc | apply pw_below_drewN | apply below_drew1 | refine below_set ?_ GE223.out) | exact HB.out)))); (case aL => have := LMc13.out; omega); intro v236 w14 ho hb hg hat; rw [← Ny235.out] at ho; have n0_ := Aside0.mk (blk_grown (g := gb223) (o := .cells #[.int .i64 a0_0, .int .i64 a0_1, .int .i64 a0_2, .int .i64 a0_3, .int .i64 a0_4, .int .i64 a0_5, .int .i64 a0_6, .int .i64 a0_7, .int .i64 a0_8, .int .i64 a0_9, .int .i64 a0_10, .int .i64 a0_11] 24 (0, 0)) (by (with_reducible repeat (first | refine blk_drewN ?_ _ | refine blk_drew ?_ | refine blk_alloc ?_ _)); exact BK223.out) hg (Kd.R_ne HO_3.out BK223.out (by decide))); have n1_ := Aside0.mk (hb); have n2_ := Aside0.mk (ho); clear BK223; clear HB; clear HO_3; have BK223 := n0_; have HB := n1_; have HO237 := n2_; clear n0_ n1_ n2_; clear ho hb hg hat))
        go_roundg k1
        case measure => have := HK1.out; omega
        case rel => exact ⟨(y235), (wrap64 (x8_1 + 1)), (by first | rfl | (simp; done) | (simp [*]; done) | (have hz_ := c11z.out; congr 1; unfold wrap64; omega)), H', ⟨by have := HK1.out; omega⟩, ⟨by (with_reducible repeat (first | apply Kd.R_alloc | apply Kd.R_drewN | apply Kd.R_drew)); exact HO237.out⟩, ⟨by (with_reducible repeat (first | refine blk_drewN ?_ _ | refine blk_drew ?_ | refine blk_alloc ?_ _)); exact BK223.out⟩, ⟨by repeat (first | (with_reducible first | exact HB.out | apply below_alloc | apply pw_below_drewN | apply below_drew1 | refine below_set ?_ GE223.out) | exact HB.out)⟩⟩
       ·rw [if_neg c13] at H
        exact absurd H (by simp)
     ·rw [if_neg c11] at H
      have c11b0 : (x8_1 == (1 : Int)) = false := beq_eq_false_iff_ne.mpr c11
      have c11b1 : (x8_1 != (1 : Int)) = true := bne_iff_ne.mpr c11
      by_cases c15 : x8_1 = (2 : Int)
      ·rw [if_pos c15] at H
       have c15z := Aside0.mk c15
       (try (have c15i : ∀ (t_ : TypeId) (v_ : Value), Instr.index t_ v_ (.int .i64 x8_1) = Instr.index t_ v_ (.int .i64 2) := fun _ _ => by rw [c15]))
       (try (have c15a : ∀ (t_ : TypeId) (v_ : Value), Instr.indexAt t_ v_ (.int .i64 x8_1) = Instr.indexAt t_ v_ (.int .i64 2) := fun _ _ => by rw [c15]))
       (try (have c15j22 : ∀ (W_ : World) (v0_ v1_ v2_ v3_ v4_ v5_ : Value), (Instr.index 22 (.agg #[v0_, v1_, v2_, v3_, v4_, v5_]) (.int .i64 2)).run Try.prog W_ = .ok v2_ W_ := by intros; kernel_rfl))
       (try (have c15j49 : ∀ (W_ : World) (v0_ v1_ v2_ v3_ v4_ v5_ v6_ v7_ : Value), (Instr.index 49 (.agg #[v0_, v1_, v2_, v3_, v4_, v5_, v6_, v7_]) (.int .i64 2)).run Try.prog W_ = .ok v2_ W_ := by intros; kernel_rfl))
       have c15b0 : (x8_1 == (2 : Int)) = true := beq_iff_eq.mpr c15
       have c15b1 : (x8_1 != (2 : Int)) = false := bne_eq_false_iff_eq.mpr c15
       clear c15
       by_cases c16 : t226 = 0
       ·rw [if_pos c16] at H
        have c16b0 : (t226 == 0) = true := beq_iff_eq.mpr c16
        have c16b1 : (t226 != 0) = false := bne_eq_false_iff_eq.mpr c16
        clear c16
        have H' := Aside0.mk H
        clear H
        go_wp2
        go_roundg k1
        case measure => have := HK1.out; omega
        case rel => exact ⟨(x3_1), (wrap64 (x8_1 + 1)), (by first | rfl | (simp; done) | (simp [*]; done) | (have hz_ := c15z.out; congr 1; unfold wrap64; omega)), H', ⟨by have := HK1.out; omega⟩, ⟨by (with_reducible repeat (first | apply Kd.R_alloc | apply Kd.R_drewN | apply Kd.R_drew)); exact HO_3.out⟩, ⟨by (with_reducible repeat (first | refine blk_drewN ?_ _ | refine blk_drew ?_ | refine blk_alloc ?_ _)); exact BK223.out⟩, ⟨by repeat (first | (with_reducible first | exact HB.out | apply below_alloc | apply pw_below_drewN | apply below_drew1 | refine below_set ?_ GE223.out) | exact HB.out)⟩⟩
       ·rw [if_neg c16] at H
        have c16b0 : (t226 == 0) = false := beq_eq_false_iff_ne.mpr c16
        have c16b1 : (t226 != 0) = true := bne_iff_ne.mpr c16
        by_cases c17 : x3_1.length < 17592186044416
        ·rw [if_pos c17] at H
         have LMc17 := Aside0.mk c17
         clear c17
         obtain ⟨y238, hy238⟩ : ∃ y_ : List Int, y_ = (x3_1 ++ [t226]) := ⟨_, rfl⟩
         replace H : (inode_Names.l0 k1 y238 (wrap64 (x8_1 + 1)) t224 t225 t226 t227 t228 t229 t230 t231) = some r := by first | (rw [hy238]; with_reducible exact H) | (have H2_ := (Option.bind_some _ _).symm.trans H; rw [hy238]; with_reducible exact H2_) | (have H2_ := (Option.bind_some _ _).symm.trans H; with_reducible exact H2_) | with_reducible exact H | (rw [hy238]; exact H) | exact H
         have Ny238 := Aside0.mk hy238
         clear hy238
         have H' := Aside0.mk H
         clear H
         go_wp2_with (first | ((with_reducible refine gate_builtin (b := .append) (xs := #[.tmp 13, .tmp 15]) rfl ?_); at_builtin; refine Kd.R_append (Kd.int .i64) (w0 := w) w.heap.size rfl (.tmp 13) (.tmp 15) 44 3 (.int .i64 0) 8 rfl Try.underlying44 info3 rfl (by decide) (by omega) u3 x3_1 t226 [.int .i64 t226] (fun _ => True) (fun _ => False) rfl rfl ?aP (fun _ hk => hk.elim) ?aF ?aO ?aB ?aS ?aL ?_; (case aP => exact rfl); (case aB => exact (by repeat (first | (with_reducible first | exact HB.out | apply below_alloc | apply pw_below_drewN | apply below_drew1 | refine below_set ?_ GE223.out) | exact HB.out))); (case aF => exact (fun _ _ => trivial)); (case aO => exact (by (with_reducible repeat (first | apply Kd.R_alloc | apply Kd.R_drewN | apply Kd.R_drew)); exact HO_3.out)); (case aS => exact (below_size (by repeat (first | (with_reducible first | exact HB.out | apply below_alloc | apply pw_below_drewN | apply below_drew1 | refine below_set ?_ GE223.out) | exact HB.out)))); (case aL => have := LMc17.out; omega); intro v239 w18 ho hb hg hat; rw [← Ny238.out] at ho; have n0_ := Aside0.mk (blk_grown (g := gb223) (o := .cells #[.int .i64 a0_0, .int .i64 a0_1, .int .i64 a0_2, .int .i64 a0_3, .int .i64 a0_4, .int .i64 a0_5, .int .i64 a0_6, .int .i64 a0_7, .int .i64 a0_8, .int .i64 a0_9, .int .i64 a0_10, .int .i64 a0_11] 24 (0, 0)) (by (with_reducible repeat (first | refine blk_drewN ?_ _ | refine blk_drew ?_ | refine blk_alloc ?_ _)); exact BK223.out) hg (Kd.R_ne HO_3.out BK223.out (by decide))); have n1_ := Aside0.mk (hb); have n2_ := Aside0.mk (ho); clear BK223; clear HB; clear HO_3; have BK223 := n0_; have HB := n1_; have HO240 := n2_; clear n0_ n1_ n2_; clear ho hb hg hat))
         go_roundg k1
         case measure => have := HK1.out; omega
         case rel => exact ⟨(y238), (wrap64 (x8_1 + 1)), (by first | rfl | (simp; done) | (simp [*]; done) | (have hz_ := c15z.out; congr 1; unfold wrap64; omega)), H', ⟨by have := HK1.out; omega⟩, ⟨by (with_reducible repeat (first | apply Kd.R_alloc | apply Kd.R_drewN | apply Kd.R_drew)); exact HO240.out⟩, ⟨by (with_reducible repeat (first | refine blk_drewN ?_ _ | refine blk_drew ?_ | refine blk_alloc ?_ _)); exact BK223.out⟩, ⟨by repeat (first | (with_reducible first | exact HB.out | apply below_alloc | apply pw_below_drewN | apply below_drew1 | refine below_set ?_ GE223.out) | exact HB.out)⟩⟩
        ·rw [if_neg c17] at H
         exact absurd H (by simp)
      ·rw [if_neg c15] at H
       have c15b0 : (x8_1 == (2 : Int)) = false := beq_eq_false_iff_ne.mpr c15
       have c15b1 : (x8_1 != (2 : Int)) = true := bne_iff_ne.mpr c15
       by_cases c19 : x8_1 = (3 : Int)
       ·rw [if_pos c19] at H
        have c19z := Aside0.mk c19
        (try (have c19i : ∀ (t_ : TypeId) (v_ : Value), Instr.index t_ v_ (.int .i64 x8_1) = Instr.index t_ v_ (.int .i64 3) := fun _ _ => by rw [c19]))
        (try (have c19a : ∀ (t_ : TypeId) (v_ : Value), Instr.indexAt t_ v_ (.int .i64 x8_1) = Instr.indexAt t_ v_ (.int .i64 3) := fun _ _ => by rw [c19]))
        (try (have c19j22 : ∀ (W_ : World) (v0_ v1_ v2_ v3_ v4_ v5_ : Value), (Instr.index 22 (.agg #[v0_, v1_, v2_, v3_, v4_, v5_]) (.int .i64 3)).run Try.prog W_ = .ok v3_ W_ := by intros; kernel_rfl))
        (try (have c19j49 : ∀ (W_ : World) (v0_ v1_ v2_ v3_ v4_ v5_ v6_ v7_ : Value), (Instr.index 49 (.agg #[v0_, v1_, v2_, v3_, v4_, v5_, v6_, v7_]) (.int .i64 3)).run Try.prog W_ = .ok v3_ W_ := by intros; kernel_rfl))
        have c19b0 : (x8_1 == (3 : Int)) = true := beq_iff_eq.mpr c19
        have c19b1 : (x8_1 != (3 : Int)) = false := bne_eq_false_iff_eq.mpr c19
        clear c19
        by_cases c20 : t227 = 0
        ·rw [if_pos c20] at H
         have c20b0 : (t227 == 0) = true := beq_iff_eq.mpr c20
         have c20b1 : (t227 != 0) = false := bne_eq_false_iff_eq.mpr c20
         clear c20
         have H' := Aside0.mk H
         clear H
         go_wp2
         go_roundg k1
         case measure => have := HK1.out; omega
         case rel => exact ⟨(x3_1), (wrap64 (x8_1 + 1)), (by first | rfl | (simp; done) | (simp [*]; done) | (have hz_ := c19z.out; congr 1; unfold wrap64; omega)), H', ⟨by have := HK1.out; omega⟩, ⟨by (with_reducible repeat (first | apply Kd.R_alloc | apply Kd.R_drewN | apply Kd.R_drew)); exact HO_3.out⟩, ⟨by (with_reducible repeat (first | refine blk_drewN ?_ _ | refine blk_drew ?_ | refine blk_alloc ?_ _)); exact BK223.out⟩, ⟨by repeat (first | (with_reducible first | exact HB.out | apply below_alloc | apply pw_below_drewN | apply below_drew1 | refine below_set ?_ GE223.out) | exact HB.out)⟩⟩
        ·rw [if_neg c20] at H
         have c20b0 : (t227 == 0) = false := beq_eq_false_iff_ne.mpr c20
         have c20b1 : (t227 != 0) = true := bne_iff_ne.mpr c20
         by_cases c21 : x3_1.length < 17592186044416
         ·rw [if_pos c21] at H
          have LMc21 := Aside0.mk c21
          clear c21
          obtain ⟨y241, hy241⟩ : ∃ y_ : List Int, y_ = (x3_1 ++ [t227]) := ⟨_, rfl⟩
          replace H : (inode_Names.l0 k1 y241 (wrap64 (x8_1 + 1)) t224 t225 t226 t227 t228 t229 t230 t231) = some r := by first | (rw [hy241]; with_reducible exact H) | (have H2_ := (Option.bind_some _ _).symm.trans H; rw [hy241]; with_reducible exact H2_) | (have H2_ := (Option.bind_some _ _).symm.trans H; with_reducible exact H2_) | with_reducible exact H | (rw [hy241]; exact H) | exact H
          have Ny241 := Aside0.mk hy241
          clear hy241
          have H' := Aside0.mk H
          clear H
          go_wp2_with (first | ((with_reducible refine gate_builtin (b := .append) (xs := #[.tmp 13, .tmp 15]) rfl ?_); at_builtin; refine Kd.R_append (Kd.int .i64) (w0 := w) w.heap.size rfl (.tmp 13) (.tmp 15) 44 3 (.int .i64 0) 8 rfl Try.underlying44 info3 rfl (by decide) (by omega) u3 x3_1 t227 [.int .i64 t227] (fun _ => True) (fun _ => False) rfl rfl ?aP (fun _ hk => hk.elim) ?aF ?aO ?aB ?aS ?aL ?_; (case aP => exact rfl); (case aB => exact (by repeat (first | (with_reducible first | exact HB.out | apply below_alloc | apply pw_below_drewN | apply below_drew1 | refine below_set ?_ GE223.out) | exact HB.out))); (case aF => exact (fun _ _ => trivial)); (case aO => exact (by (with_reducible repeat (first | apply Kd.R_alloc | apply Kd.R_drewN | apply Kd.R_drew)); exact HO_3.out)); (case aS => exact (below_size (by repeat (first | (with_reducible first | exact HB.out | apply below_alloc | apply pw_below_drewN | apply below_drew1 | refine below_set ?_ GE223.out) | exact HB.out)))); (case aL => have := LMc21.out; omega); intro v242 w22 ho hb hg hat; rw [← Ny241.out] at ho; have n0_ := Aside0.mk (blk_grown (g := gb223) (o := .cells #[.int .i64 a0_0, .int .i64 a0_1, .int .i64 a0_2, .int .i64 a0_3, .int .i64 a0_4, .int .i64 a0_5, .int .i64 a0_6, .int .i64 a0_7, .int .i64 a0_8, .int .i64 a0_9, .int .i64 a0_10, .int .i64 a0_11] 24 (0, 0)) (by (with_reducible repeat (first | refine blk_drewN ?_ _ | refine blk_drew ?_ | refine blk_alloc ?_ _)); exact BK223.out) hg (Kd.R_ne HO_3.out BK223.out (by decide))); have n1_ := Aside0.mk (hb); have n2_ := Aside0.mk (ho); clear BK223; clear HB; clear HO_3; have BK223 := n0_; have HB := n1_; have HO243 := n2_; clear n0_ n1_ n2_; clear ho hb hg hat))
          go_roundg k1
          case measure => have := HK1.out; omega
          case rel => exact ⟨(y241), (wrap64 (x8_1 + 1)), (by first | rfl | (simp; done) | (simp [*]; done) | (have hz_ := c19z.out; congr 1; unfold wrap64; omega)), H', ⟨by have := HK1.out; omega⟩, ⟨by (with_reducible repeat (first | apply Kd.R_alloc | apply Kd.R_drewN | apply Kd.R_drew)); exact HO243.out⟩, ⟨by (with_reducible repeat (first | refine blk_drewN ?_ _ | refine blk_drew ?_ | refine blk_alloc ?_ _)); exact BK223.out⟩, ⟨by repeat (first | (with_reducible first | exact HB.out | apply below_alloc | apply pw_below_drewN | apply below_drew1 | refine below_set ?_ GE223.out) | exact HB.out)⟩⟩
         ·rw [if_neg c21] at H
          exact absurd H (by simp)
       ·rw [if_neg c19] at H
        have c19b0 : (x8_1 == (3 : Int)) = false := beq_eq_false_iff_ne.mpr c19
        have c19b1 : (x8_1 != (3 : Int)) = true := bne_iff_ne.mpr c19
        by_cases c23 : x8_1 = (4 : Int)
        ·rw [if_pos c23] at H
         have c23z := Aside0.mk c23
         (try (have c23i : ∀ (t_ : TypeId) (v_ : Value), Instr.index t_ v_ (.int .i64 x8_1) = Instr.index t_ v_ (.int .i64 4) := fun _ _ => by rw [c23]))
         (try (have c23a : ∀ (t_ : TypeId) (v_ : Value), Instr.indexAt t_ v_ (.int .i64 x8_1) = Instr.indexAt t_ v_ (.int .i64 4) := fun _ _ => by rw [c23]))
         (try (have c23j22 : ∀ (W_ : World) (v0_ v1_ v2_ v3_ v4_ v5_ : Value), (Instr.index 22 (.agg #[v0_, v1_, v2_, v3_, v4_, v5_]) (.int .i64 4)).run Try.prog W_ = .ok v4_ W_ := by intros; kernel_rfl))
         (try (have c23j49 : ∀ (W_ : World) (v0_ v1_ v2_ v3_ v4_ v5_ v6_ v7_ : Value), (Instr.index 49 (.agg #[v0_, v1_, v2_, v3_, v4_, v5_, v6_, v7_]) (.int .i64 4)).run Try.prog W_ = .ok v4_ W_ := by intros; kernel_rfl))
         have c23b0 : (x8_1 == (4 : Int)) = true := beq_iff_eq.mpr c23
         have c23b1 : (x8_1 != (4 : Int)) = false := bne_eq_false_iff_eq.mpr c23
         clear c23
         by_cases c24 : t228 = 0
         ·rw [if_pos c24] at H
          have c24b0 : (t228 == 0) = true := beq_iff_eq.mpr c24
          have c24b1 : (t228 != 0) = false := bne_eq_false_iff_eq.mpr c24
          clear c24
          have H' := Aside0.mk H
          clear H
          go_wp2
          go_roundg k1
          case measure => have := HK1.out; omega
          case rel => exact ⟨(x3_1), (wrap64 (x8_1 + 1)), (by first | rfl | (simp; done) | (simp [*]; done) | (have hz_ := c23z.out; congr 1; unfold wrap64; omega)), H', ⟨by have := HK1.out; omega⟩, ⟨by (with_reducible repeat (first | apply Kd.R_alloc | apply Kd.R_drewN | apply Kd.R_drew)); exact HO_3.out⟩, ⟨by (with_reducible repeat (first | refine blk_drewN ?_ _ | refine blk_drew ?_ | refine blk_alloc ?_ _)); exact BK223.out⟩, ⟨by repeat (first | (with_reducible first | exact HB.out | apply below_alloc | apply pw_below_drewN | apply below_drew1 | refine below_set ?_ GE223.out) | exact HB.out)⟩⟩
         ·rw [if_neg c24] at H
          have c24b0 : (t228 == 0) = false := beq_eq_false_iff_ne.mpr c24
          have c24b1 : (t228 != 0) = true := bne_iff_ne.mpr c24
          by_cases c25 : x3_1.length < 17592186044416
          ·rw [if_pos c25] at H
           have LMc25 := Aside0.mk c25
           clear c25
           obtain ⟨y244, hy244⟩ : ∃ y_ : List Int, y_ = (x3_1 ++ [t228]) := ⟨_, rfl⟩
           replace H : (inode_Names.l0 k1 y244 (wrap64 (x8_1 + 1)) t224 t225 t226 t227 t228 t229 t230 t231) = some r := by first | (rw [hy244]; with_reducible exact H) | (have H2_ := (Option.bind_some _ _).symm.trans H; rw [hy244]; with_reducible exact H2_) | (have H2_ := (Option.bind_some _ _).symm.trans H; with_reducible exact H2_) | with_reducible exact H | (rw [hy244]; exact H) | exact H
           have Ny244 := Aside0.mk hy244
           clear hy244
           have H' := Aside0.mk H
           clear H
           go_wp2_with (first | ((with_reducible refine gate_builtin (b := .append) (xs := #[.tmp 13, .tmp 15]) rfl ?_); at_builtin; refine Kd.R_append (Kd.int .i64) (w0 := w) w.heap.size rfl (.tmp 13) (.tmp 15) 44 3 (.int .i64 0) 8 rfl Try.underlying44 info3 rfl (by decide) (by omega) u3 x3_1 t228 [.int .i64 t228] (fun _ => True) (fun _ => False) rfl rfl ?aP (fun _ hk => hk.elim) ?aF ?aO ?aB ?aS ?aL ?_; (case aP => exact rfl); (case aB => exact (by repeat (first | (with_reducible first | exact HB.out | apply below_alloc | apply pw_below_drewN | apply below_drew1 | refine below_set ?_ GE223.out) | exact HB.out))); (case aF => exact (fun _ _ => trivial)); (case aO => exact (by (with_reducible repeat (first | apply Kd.R_alloc | apply Kd.R_drewN | apply Kd.R_drew)); exact HO_3.out)); (case aS => exact (below_size (by repeat (first | (with_reducible first | exact HB.out | apply below_alloc | apply pw_below_drewN | apply below_drew1 | refine below_set ?_ GE223.out) | exact HB.out)))); (case aL => have := LMc25.out; omega); intro v245 w26 ho hb hg hat; rw [← Ny244.out] at ho; have n0_ := Aside0.mk (blk_grown (g := gb223) (o := .cells #[.int .i64 a0_0, .int .i64 a0_1, .int .i64 a0_2, .int .i64 a0_3, .int .i64 a0_4, .int .i64 a0_5, .int .i64 a0_6, .int .i64 a0_7, .int .i64 a0_8, .int .i64 a0_9, .int .i64 a0_10, .int .i64 a0_11] 24 (0, 0)) (by (with_reducible repeat (first | refine blk_drewN ?_ _ | refine blk_drew ?_ | refine blk_alloc ?_ _)); exact BK223.out) hg (Kd.R_ne HO_3.out BK223.out (by decide))); have n1_ := Aside0.mk (hb); have n2_ := Aside0.mk (ho); clear BK223; clear HB; clear HO_3; have BK223 := n0_; have HB := n1_; have HO246 := n2_; clear n0_ n1_ n2_; clear ho hb hg hat))
           go_roundg k1
           case measure => have := HK1.out; omega
           case rel => exact ⟨(y244), (wrap64 (x8_1 + 1)), (by first | rfl | (simp; done) | (simp [*]; done) | (have hz_ := c23z.out; congr 1; unfold wrap64; omega)), H', ⟨by have := HK1.out; omega⟩, ⟨by (with_reducible repeat (first | apply Kd.R_alloc | apply Kd.R_drewN | apply Kd.R_drew)); exact HO246.out⟩, ⟨by (with_reducible repeat (first | refine blk_drewN ?_ _ | refine blk_drew ?_ | refine blk_alloc ?_ _)); exact BK223.out⟩, ⟨by repeat (first | (with_reducible first | exact HB.out | apply below_alloc | apply pw_below_drewN | apply below_drew1 | refine below_set ?_ GE223.out) | exact HB.out)⟩⟩
          ·rw [if_neg c25] at H
           exact absurd H (by simp)
        ·rw [if_neg c23] at H
         have c23b0 : (x8_1 == (4 : Int)) = false := beq_eq_false_iff_ne.mpr c23
         have c23b1 : (x8_1 != (4 : Int)) = true := bne_iff_ne.mpr c23
         by_cases c27 : x8_1 = (5 : Int)
         ·rw [if_pos c27] at H
          have c27z := Aside0.mk c27
          (try (have c27i : ∀ (t_ : TypeId) (v_ : Value), Instr.index t_ v_ (.int .i64 x8_1) = Instr.index t_ v_ (.int .i64 5) := fun _ _ => by rw [c27]))
          (try (have c27a : ∀ (t_ : TypeId) (v_ : Value), Instr.indexAt t_ v_ (.int .i64 x8_1) = Instr.indexAt t_ v_ (.int .i64 5) := fun _ _ => by rw [c27]))
          (try (have c27j22 : ∀ (W_ : World) (v0_ v1_ v2_ v3_ v4_ v5_ : Value), (Instr.index 22 (.agg #[v0_, v1_, v2_, v3_, v4_, v5_]) (.int .i64 5)).run Try.prog W_ = .ok v5_ W_ := by intros; kernel_rfl))
          (try (have c27j49 : ∀ (W_ : World) (v0_ v1_ v2_ v3_ v4_ v5_ v6_ v7_ : Value), (Instr.index 49 (.agg #[v0_, v1_, v2_, v3_, v4_, v5_, v6_, v7_]) (.int .i64 5)).run Try.prog W_ = .ok v5_ W_ := by intros; kernel_rfl))
          have c27b0 : (x8_1 == (5 : Int)) = true := beq_iff_eq.mpr c27
          have c27b1 : (x8_1 != (5 : Int)) = false := bne_eq_false_iff_eq.mpr c27
          clear c27
          by_cases c28 : t229 = 0
          ·rw [if_pos c28] at H
           have c28b0 : (t229 == 0) = true := beq_iff_eq.mpr c28
           have c28b1 : (t229 != 0) = false := bne_eq_false_iff_eq.mpr c28
           clear c28
           have H' := Aside0.mk H
           clear H
           go_wp2
           go_roundg k1
           case measure => have := HK1.out; omega
           case rel => exact ⟨(x3_1), (wrap64 (x8_1 + 1)), (by first | rfl | (simp; done) | (simp [*]; done) | (have hz_ := c27z.out; congr 1; unfold wrap64; omega)), H', ⟨by have := HK1.out; omega⟩, ⟨by (with_reducible repeat (first | apply Kd.R_alloc | apply Kd.R_drewN | apply Kd.R_drew)); exact HO_3.out⟩, ⟨by (with_reducible repeat (first | refine blk_drewN ?_ _ | refine blk_drew ?_ | refine blk_alloc ?_ _)); exact BK223.out⟩, ⟨by repeat (first | (with_reducible first | exact HB.out | apply below_alloc | apply pw_below_drewN | apply below_drew1 | refine below_set ?_ GE223.out) | exact HB.out)⟩⟩
          ·rw [if_neg c28] at H
           have c28b0 : (t229 == 0) = false := beq_eq_false_iff_ne.mpr c28
           have c28b1 : (t229 != 0) = true := bne_iff_ne.mpr c28
           by_cases c29 : x3_1.length < 17592186044416
           ·rw [if_pos c29] at H
            have LMc29 := Aside0.mk c29
            clear c29
            obtain ⟨y247, hy247⟩ : ∃ y_ : List Int, y_ = (x3_1 ++ [t229]) := ⟨_, rfl⟩
            replace H : (inode_Names.l0 k1 y247 (wrap64 (x8_1 + 1)) t224 t225 t226 t227 t228 t229 t230 t231) = some r := by first | (rw [hy247]; with_reducible exact H) | (have H2_ := (Option.bind_some _ _).symm.trans H; rw [hy247]; with_reducible exact H2_) | (have H2_ := (Option.bind_some _ _).symm.trans H; with_reducible exact H2_) | with_reducible exact H | (rw [hy247]; exact H) | exact H
            have Ny247 := Aside0.mk hy247
            clear hy247
            have H' := Aside0.mk H
            clear H
            go_wp2_with (first | ((with_reducible refine gate_builtin (b := .append) (xs := #[.tmp 13, .tmp 15]) rfl ?_); at_builtin; refine Kd.R_append (Kd.int .i64) (w0 := w) w.heap.size rfl (.tmp 13) (.tmp 15) 44 3 (.int .i64 0) 8 rfl Try.underlying44 info3 rfl (by decide) (by omega) u3 x3_1 t229 [.int .i64 t229] (fun _ => True) (fun _ => False) rfl rfl ?aP (fun _ hk => hk.elim) ?aF ?aO ?aB ?aS ?aL ?_; (case aP => exact rfl); (case aB => exact (by repeat (first | (with_reducible first | exact HB.out | apply below_alloc | apply pw_below_drewN | apply below_drew1 | refine below_set ?_ GE223.out) | exact HB.out))); (case aF => exact (fun _ _ => trivial)); (case aO => exact (by (with_reducible repeat (first | apply Kd.R_alloc | apply Kd.R_drewN | apply Kd.R_drew)); exact HO_3.out)); (case aS => exact (below_size (by repeat (first | (with_reducible first | exact HB.out | apply below_alloc | apply pw_below_drewN | apply below_drew1 | refine below_set ?_ GE223.out) | exact HB.out)))); (case aL => have := LMc29.out; omega); intro v248 w30 ho hb hg hat; rw [← Ny247.out] at ho; have n0_ := Aside0.mk (blk_grown (g := gb223) (o := .cells #[.int .i64 a0_0, .int .i64 a0_1, .int .i64 a0_2, .int .i64 a0_3, .int .i64 a0_4, .int .i64 a0_5, .int .i64 a0_6, .int .i64 a0_7, .int .i64 a0_8, .int .i64 a0_9, .int .i64 a0_10, .int .i64 a0_11] 24 (0, 0)) (by (with_reducible repeat (first | refine blk_drewN ?_ _ | refine blk_drew ?_ | refine blk_alloc ?_ _)); exact BK223.out) hg (Kd.R_ne HO_3.out BK223.out (by decide))); have n1_ := Aside0.mk (hb); have n2_ := Aside0.mk (ho); clear BK223; clear HB; clear HO_3; have BK223 := n0_; have HB := n1_; have HO249 := n2_; clear n0_ n1_ n2_; clear ho hb hg hat))
            go_roundg k1
            case measure => have := HK1.out; omega
            case rel => exact ⟨(y247), (wrap64 (x8_1 + 1)), (by first | rfl | (simp; done) | (simp [*]; done) | (have hz_ := c27z.out; congr 1; unfold wrap64; omega)), H', ⟨by have := HK1.out; omega⟩, ⟨by (with_reducible repeat (first | apply Kd.R_alloc | apply Kd.R_drewN | apply Kd.R_drew)); exact HO249.out⟩, ⟨by (with_reducible repeat (first | refine blk_drewN ?_ _ | refine blk_drew ?_ | refine blk_alloc ?_ _)); exact BK223.out⟩, ⟨by repeat (first | (with_reducible first | exact HB.out | apply below_alloc | apply pw_below_drewN | apply below_drew1 | refine below_set ?_ GE223.out) | exact HB.out)⟩⟩
           ·rw [if_neg c29] at H
            exact absurd H (by simp)
         ·rw [if_neg c27] at H
          have c27b0 : (x8_1 == (5 : Int)) = false := beq_eq_false_iff_ne.mpr c27
          have c27b1 : (x8_1 != (5 : Int)) = true := bne_iff_ne.mpr c27
          by_cases c31 : x8_1 = (6 : Int)
          ·rw [if_pos c31] at H
           have c31z := Aside0.mk c31
           (try (have c31i : ∀ (t_ : TypeId) (v_ : Value), Instr.index t_ v_ (.int .i64 x8_1) = Instr.index t_ v_ (.int .i64 6) := fun _ _ => by rw [c31]))
           (try (have c31a : ∀ (t_ : TypeId) (v_ : Value), Instr.indexAt t_ v_ (.int .i64 x8_1) = Instr.indexAt t_ v_ (.int .i64 6) := fun _ _ => by rw [c31]))
           (try (have c31j49 : ∀ (W_ : World) (v0_ v1_ v2_ v3_ v4_ v5_ v6_ v7_ : Value), (Instr.index 49 (.agg #[v0_, v1_, v2_, v3_, v4_, v5_, v6_, v7_]) (.int .i64 6)).run Try.prog W_ = .ok v6_ W_ := by intros; kernel_rfl))
           have c31b0 : (x8_1 == (6 : Int)) = true := beq_iff_eq.mpr c31
           have c31b1 : (x8_1 != (6 : Int)) = false := bne_eq_false_iff_eq.mpr c31
           clear c31
           by_cases c32 : t230 = 0
           ·rw [if_pos c32] at H
            have c32b0 : (t230 == 0) = true := beq_iff_eq.mpr c32
            have c32b1 : (t230 != 0) = false := bne_eq_false_iff_eq.mpr c32
            clear c32
            have H' := Aside0.mk H
            clear H
            go_wp2
            go_roundg k1
            case measure => have := HK1.out; omega
            case rel => exact ⟨(x3_1), (wrap64 (x8_1 + 1)), (by first | rfl | (simp; done) | (simp [*]; done) | (have hz_ := c31z.out; congr 1; unfold wrap64; omega)), H', ⟨by have := HK1.out; omega⟩, ⟨by (with_reducible repeat (first | apply Kd.R_alloc | apply Kd.R_drewN | apply Kd.R_drew)); exact HO_3.out⟩, ⟨by (with_reducible repeat (first | refine blk_drewN ?_ _ | refine blk_drew ?_ | refine blk_alloc ?_ _)); exact BK223.out⟩, ⟨by repeat (first | (with_reducible first | exact HB.out | apply below_alloc | apply pw_below_drewN | apply below_drew1 | refine below_set ?_ GE223.out) | exact HB.out)⟩⟩
           ·rw [if_neg c32] at H
            have c32b0 : (t230 == 0) = false := beq_eq_false_iff_ne.mpr c32
            have c32b1 : (t230 != 0) = true := bne_iff_ne.mpr c32
            by_cases c33 : x3_1.length < 17592186044416
            ·rw [if_pos c33] at H
             have LMc33 := Aside0.mk c33
             clear c33
             obtain ⟨y250, hy250⟩ : ∃ y_ : List Int, y_ = (x3_1 ++ [t230]) := ⟨_, rfl⟩
             replace H : (inode_Names.l0 k1 y250 (wrap64 (x8_1 + 1)) t224 t225 t226 t227 t228 t229 t230 t231) = some r := by first | (rw [hy250]; with_reducible exact H) | (have H2_ := (Option.bind_some _ _).symm.trans H; rw [hy250]; with_reducible exact H2_) | (have H2_ := (Option.bind_some _ _).symm.trans H; with_reducible exact H2_) | with_reducible exact H | (rw [hy250]; exact H) | exact H
             have Ny250 := Aside0.mk hy250
             clear hy250
             have H' := Aside0.mk H
             clear H
             go_wp2_with (first | ((with_reducible refine gate_builtin (b := .append) (xs := #[.tmp 13, .tmp 15]) rfl ?_); at_builtin; refine Kd.R_append (Kd.int .i64) (w0 := w) w.heap.size rfl (.tmp 13) (.tmp 15) 44 3 (.int .i64 0) 8 rfl Try.underlying44 info3 rfl (by decide) (by omega) u3 x3_1 t230 [.int .i64 t230] (fun _ => True) (fun _ => False) rfl rfl ?aP (fun _ hk => hk.elim) ?aF ?aO ?aB ?aS ?aL ?_; (case aP => exact rfl); (case aB => exact (by repeat (first | (with_reducible first | exact HB.out | apply below_alloc | apply pw_below_drewN | apply below_drew1 | refine below_set ?_ GE223.out) | exact HB.out))); (case aF => exact (fun _ _ => trivial)); (case aO => exact (by (with_reducible repeat (first | apply Kd.R_alloc | apply Kd.R_drewN | apply Kd.R_drew)); exact HO_3.out)); (case aS => exact (below_size (by repeat (first | (with_reducible first | exact HB.out | apply below_alloc | apply pw_below_drewN | apply below_drew1 | refine below_set ?_ GE223.out) | exact HB.out)))); (case aL => have := LMc33.out; omega); intro v251 w34 ho hb hg hat; rw [← Ny250.out] at ho; have n0_ := Aside0.mk (blk_grown (g := gb223) (o := .cells #[.int .i64 a0_0, .int .i64 a0_1, .int .i64 a0_2, .int .i64 a0_3, .int .i64 a0_4, .int .i64 a0_5, .int .i64 a0_6, .int .i64 a0_7, .int .i64 a0_8, .int .i64 a0_9, .int .i64 a0_10, .int .i64 a0_11] 24 (0, 0)) (by (with_reducible repeat (first | refine blk_drewN ?_ _ | refine blk_drew ?_ | refine blk_alloc ?_ _)); exact BK223.out) hg (Kd.R_ne HO_3.out BK223.out (by decide))); have n1_ := Aside0.mk (hb); have n2_ := Aside0.mk (ho); clear BK223; clear HB; clear HO_3; have BK223 := n0_; have HB := n1_; have HO252 := n2_; clear n0_ n1_ n2_; clear ho hb hg hat))
             go_roundg k1
             case measure => have := HK1.out; omega
             case rel => exact ⟨(y250), (wrap64 (x8_1 + 1)), (by first | rfl | (simp; done) | (simp [*]; done) | (have hz_ := c31z.out; congr 1; unfold wrap64; omega)), H', ⟨by have := HK1.out; omega⟩, ⟨by (with_reducible repeat (first | apply Kd.R_alloc | apply Kd.R_drewN | apply Kd.R_drew)); exact HO252.out⟩, ⟨by (with_reducible repeat (first | refine blk_drewN ?_ _ | refine blk_drew ?_ | refine blk_alloc ?_ _)); exact BK223.out⟩, ⟨by repeat (first | (with_reducible first | exact HB.out | apply below_alloc | apply pw_below_drewN | apply below_drew1 | refine below_set ?_ GE223.out) | exact HB.out)⟩⟩
            ·rw [if_neg c33] at H
             exact absurd H (by simp)
          ·rw [if_neg c31] at H
           have c31b0 : (x8_1 == (6 : Int)) = false := beq_eq_false_iff_ne.mpr c31
           have c31b1 : (x8_1 != (6 : Int)) = true := bne_iff_ne.mpr c31
           by_cases c35 : x8_1 = (7 : Int)
           ·rw [if_pos c35] at H
            have c35z := Aside0.mk c35
            (try (have c35i : ∀ (t_ : TypeId) (v_ : Value), Instr.index t_ v_ (.int .i64 x8_1) = Instr.index t_ v_ (.int .i64 7) := fun _ _ => by rw [c35]))
            (try (have c35a : ∀ (t_ : TypeId) (v_ : Value), Instr.indexAt t_ v_ (.int .i64 x8_1) = Instr.indexAt t_ v_ (.int .i64 7) := fun _ _ => by rw [c35]))
            (try (have c35j49 : ∀ (W_ : World) (v0_ v1_ v2_ v3_ v4_ v5_ v6_ v7_ : Value), (Instr.index 49 (.agg #[v0_, v1_, v2_, v3_, v4_, v5_, v6_, v7_]) (.int .i64 7)).run Try.prog W_ = .ok v7_ W_ := by intros; kernel_rfl))
            have c35b0 : (x8_1 == (7 : Int)) = true := beq_iff_eq.mpr c35
            have c35b1 : (x8_1 != (7 : Int)) = false := bne_eq_false_iff_eq.mpr c35
            clear c35
            by_cases c36 : t231 = 0
            ·rw [if_pos c36] at H
             have c36b0 : (t231 == 0) = true := beq_iff_eq.mpr c36
             have c36b1 : (t231 != 0) = false := bne_eq_false_iff_eq.mpr c36
             clear c36
             have H' := Aside0.mk H
             clear H
             go_wp2
             go_roundg k1
             case measure => have := HK1.out; omega
             case rel => exact ⟨(x3_1), (wrap64 (x8_1 + 1)), (by first | rfl | (simp; done) | (simp [*]; done) | (have hz_ := c35z.out; congr 1; unfold wrap64; omega)), H', ⟨by have := HK1.out; omega⟩, ⟨by (with_reducible repeat (first | apply Kd.R_alloc | apply Kd.R_drewN | apply Kd.R_drew)); exact HO_3.out⟩, ⟨by (with_reducible repeat (first | refine blk_drewN ?_ _ | refine blk_drew ?_ | refine blk_alloc ?_ _)); exact BK223.out⟩, ⟨by repeat (first | (with_reducible first | exact HB.out | apply below_alloc | apply pw_below_drewN | apply below_drew1 | refine below_set ?_ GE223.out) | exact HB.out)⟩⟩
            ·rw [if_neg c36] at H
             have c36b0 : (t231 == 0) = false := beq_eq_false_iff_ne.mpr c36
             have c36b1 : (t231 != 0) = true := bne_iff_ne.mpr c36
             by_cases c37 : x3_1.length < 17592186044416
             ·rw [if_pos c37] at H
              have LMc37 := Aside0.mk c37
              clear c37
              obtain ⟨y253, hy253⟩ : ∃ y_ : List Int, y_ = (x3_1 ++ [t231]) := ⟨_, rfl⟩
              replace H : (inode_Names.l0 k1 y253 (wrap64 (x8_1 + 1)) t224 t225 t226 t227 t228 t229 t230 t231) = some r := by first | (rw [hy253]; with_reducible exact H) | (have H2_ := (Option.bind_some _ _).symm.trans H; rw [hy253]; with_reducible exact H2_) | (have H2_ := (Option.bind_some _ _).symm.trans H; with_reducible exact H2_) | with_reducible exact H | (rw [hy253]; exact H) | exact H
              have Ny253 := Aside0.mk hy253
              clear hy253
              have H' := Aside0.mk H
              clear H
              go_wp2_with (first | ((with_reducible refine gate_builtin (b := .append) (xs := #[.tmp 13, .tmp 15]) rfl ?_); at_builtin; refine Kd.R_append (Kd.int .i64) (w0 := w) w.heap.size rfl (.tmp 13) (.tmp 15) 44 3 (.int .i64 0) 8 rfl Try.underlying44 info3 rfl (by decide) (by omega) u3 x3_1 t231 [.int .i64 t231] (fun _ => True) (fun _ => False) rfl rfl ?aP (fun _ hk => hk.elim) ?aF ?aO ?aB ?aS ?aL ?_; (case aP => exact rfl); (case aB => exact (by repeat (first | (with_reducible first | exact HB.out | apply below_alloc | apply pw_below_drewN | apply below_drew1 | refine below_set ?_ GE223.out) | exact HB.out))); (case aF => exact (fun _ _ => trivial)); (case aO => exact (by (with_reducible repeat (first | apply Kd.R_alloc | apply Kd.R_drewN | apply Kd.R_drew)); exact HO_3.out)); (case aS => exact (below_size (by repeat (first | (with_reducible first | exact HB.out | apply below_alloc | apply pw_below_drewN | apply below_drew1 | refine below_set ?_ GE223.out) | exact HB.out)))); (case aL => have := LMc37.out; omega); intro v254 w38 ho hb hg hat; rw [← Ny253.out] at ho; have n0_ := Aside0.mk (blk_grown (g := gb223) (o := .cells #[.int .i64 a0_0, .int .i64 a0_1, .int .i64 a0_2, .int .i64 a0_3, .int .i64 a0_4, .int .i64 a0_5, .int .i64 a0_6, .int .i64 a0_7, .int .i64 a0_8, .int .i64 a0_9, .int .i64 a0_10, .int .i64 a0_11] 24 (0, 0)) (by (with_reducible repeat (first | refine blk_drewN ?_ _ | refine blk_drew ?_ | refine blk_alloc ?_ _)); exact BK223.out) hg (Kd.R_ne HO_3.out BK223.out (by decide))); have n1_ := Aside0.mk (hb); have n2_ := Aside0.mk (ho); clear BK223; clear HB; clear HO_3; have BK223 := n0_; have HB := n1_; have HO255 := n2_; clear n0_ n1_ n2_; clear ho hb hg hat))
              go_roundg k1
              case measure => have := HK1.out; omega
              case rel => exact ⟨(y253), (wrap64 (x8_1 + 1)), (by first | rfl | (simp; done) | (simp [*]; done) | (have hz_ := c35z.out; congr 1; unfold wrap64; omega)), H', ⟨by have := HK1.out; omega⟩, ⟨by (with_reducible repeat (first | apply Kd.R_alloc | apply Kd.R_drewN | apply Kd.R_drew)); exact HO255.out⟩, ⟨by (with_reducible repeat (first | refine blk_drewN ?_ _ | refine blk_drew ?_ | refine blk_alloc ?_ _)); exact BK223.out⟩, ⟨by repeat (first | (with_reducible first | exact HB.out | apply below_alloc | apply pw_below_drewN | apply below_drew1 | refine below_set ?_ GE223.out) | exact HB.out)⟩⟩
             ·rw [if_neg c37] at H
              exact absurd H (by simp)
           ·rw [if_neg c35] at H
            exact absurd H (by simp)
   ·rw [if_neg c6] at H
    have c6b0 : decide (x8_1 < 8) = false := decide_eq_false c6
    clear c6
    obtain rfl := Option.some.inj H
    go_wp2
    go_ret
    exact ⟨_, by first | rfl | (simp [errW_none, errW_some] <;> rfl) | (simp [*, errW_none, errW_some] <;> rfl), by (with_reducible repeat (first | apply Kd.R_alloc | apply Kd.R_drewN | apply Kd.R_drew)); exact HO_3.out, by repeat (first | (with_reducible first | exact HB.out | apply below_alloc | apply pw_below_drewN | apply below_drew1 | refine below_set ?_ GE223.out) | exact HB.out)⟩

end Go.Proofs.Ythcndfnmgggblaa.P
