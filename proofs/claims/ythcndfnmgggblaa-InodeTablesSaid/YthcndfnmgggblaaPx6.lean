-- PRINTED by print.py (a twelfth state) out of the translation. Not trusted: Lean checks it.
import Derived.Test.YthcndfnmgggblaaPx0
import Derived.Test.YthcndfnmgggblaaPx1
import Derived.Test.YthcndfnmgggblaaHand
import Derived.Test.YthcndfnmgggblaaHandInode
import Derived.Test.YthcndfnmgggblaaCells
namespace Go.Proofs.Ythcndfnmgggblaa.P
open Go.RowKit Go.Proofs.YthcndfnmgggblaaW.PrintWords Go.Proofs.YthcndfnmgggblaaW.PrintLast Go.Proofs.YthcndfnmgggblaaW.PrintMore
attribute [local go_sem] max2_int min2_int max_two min_two max_three min_three max_four min_four   -- for this text's walks alone
set_option linter.unusedVariables false
set_option linter.unusedSimpArgs false

attribute [local go_sem high] eqA24
/-! ### leveeref07_Right: function 12 -/
mutual
def leveeref07_Right.j0 : Nat → Bool → Int → Int → Int → Int → Int → Int → Int → Int → Int → Int → Int → Int → Option (Bool)
 | 0, _, _, _, _, _, _, _, _, _, _, _, _, _ => none
 | k + 1, x4, x117000, x117001, x117002, x117003, x117004, x117005, x117006, x117007, x117008, x117009, x117010, x117011 => if x4 = true then (if x117000 = 2 then (if (Int.tmod x117002 256) = 0 then (if x117000 = 3 then (if x117002 ≥ 1 then (leveeref07_Right.j1 k (decide (x117002 ≤ 255)) x117000 x117001 x117002 x117003 x117004 x117005 x117006 x117007 x117008 x117009 x117010 x117011) else (leveeref07_Right.j1 k false x117000 x117001 x117002 x117003 x117004 x117005 x117006 x117007 x117008 x117009 x117010 x117011)) else (leveeref07_Right.j1 k true x117000 x117001 x117002 x117003 x117004 x117005 x117006 x117007 x117008 x117009 x117010 x117011)) else (leveeref07_Right.j1 k false x117000 x117001 x117002 x117003 x117004 x117005 x117006 x117007 x117008 x117009 x117010 x117011)) else (if x117000 = 3 then (if x117002 ≥ 1 then (leveeref07_Right.j1 k (decide (x117002 ≤ 255)) x117000 x117001 x117002 x117003 x117004 x117005 x117006 x117007 x117008 x117009 x117010 x117011) else (leveeref07_Right.j1 k false x117000 x117001 x117002 x117003 x117004 x117005 x117006 x117007 x117008 x117009 x117010 x117011)) else (leveeref07_Right.j1 k true x117000 x117001 x117002 x117003 x117004 x117005 x117006 x117007 x117008 x117009 x117010 x117011))) else (leveeref07_Right.j1 k false x117000 x117001 x117002 x117003 x117004 x117005 x117006 x117007 x117008 x117009 x117010 x117011)
def leveeref07_Right.j1 : Nat → Bool → Int → Int → Int → Int → Int → Int → Int → Int → Int → Int → Int → Int → Option (Bool)
 | 0, _, _, _, _, _, _, _, _, _, _, _, _, _ => none
 | k + 1, x4, x117000, x117001, x117002, x117003, x117004, x117005, x117006, x117007, x117008, x117009, x117010, x117011 => leveeref07_Right.l0 k x4 0 x117000 x117001 x117002 x117003 x117004 x117005 x117006 x117007 x117008 x117009 x117010 x117011
def leveeref07_Right.l0 : Nat → Bool → Int → Int → Int → Int → Int → Int → Int → Int → Int → Int → Int → Int → Int → Option (Bool)
 | 0, _, _, _, _, _, _, _, _, _, _, _, _, _, _ => none
 | k + 1, x4, x5, x117000, x117001, x117002, x117003, x117004, x117005, x117006, x117007, x117008, x117009, x117010, x117011 => if x5 < 6 then (if x4 = true then (if x5 = (0 : Int) then (if x117004 ≥ 0 then (leveeref07_Right.l0 k (decide (x117004 < 4096)) (wrap64 (x5 + 1)) x117000 x117001 x117002 x117003 x117004 x117005 x117006 x117007 x117008 x117009 x117010 x117011) else (leveeref07_Right.l0 k false (wrap64 (x5 + 1)) x117000 x117001 x117002 x117003 x117004 x117005 x117006 x117007 x117008 x117009 x117010 x117011)) else (if x5 = (1 : Int) then (if x117005 ≥ 0 then (leveeref07_Right.l0 k (decide (x117005 < 4096)) (wrap64 (x5 + 1)) x117000 x117001 x117002 x117003 x117004 x117005 x117006 x117007 x117008 x117009 x117010 x117011) else (leveeref07_Right.l0 k false (wrap64 (x5 + 1)) x117000 x117001 x117002 x117003 x117004 x117005 x117006 x117007 x117008 x117009 x117010 x117011)) else (if x5 = (2 : Int) then (if x117006 ≥ 0 then (leveeref07_Right.l0 k (decide (x117006 < 4096)) (wrap64 (x5 + 1)) x117000 x117001 x117002 x117003 x117004 x117005 x117006 x117007 x117008 x117009 x117010 x117011) else (leveeref07_Right.l0 k false (wrap64 (x5 + 1)) x117000 x117001 x117002 x117003 x117004 x117005 x117006 x117007 x117008 x117009 x117010 x117011)) else (if x5 = (3 : Int) then (if x117007 ≥ 0 then (leveeref07_Right.l0 k (decide (x117007 < 4096)) (wrap64 (x5 + 1)) x117000 x117001 x117002 x117003 x117004 x117005 x117006 x117007 x117008 x117009 x117010 x117011) else (leveeref07_Right.l0 k false (wrap64 (x5 + 1)) x117000 x117001 x117002 x117003 x117004 x117005 x117006 x117007 x117008 x117009 x117010 x117011)) else (if x5 = (4 : Int) then (if x117008 ≥ 0 then (leveeref07_Right.l0 k (decide (x117008 < 4096)) (wrap64 (x5 + 1)) x117000 x117001 x117002 x117003 x117004 x117005 x117006 x117007 x117008 x117009 x117010 x117011) else (leveeref07_Right.l0 k false (wrap64 (x5 + 1)) x117000 x117001 x117002 x117003 x117004 x117005 x117006 x117007 x117008 x117009 x117010 x117011)) else (if x5 = (5 : Int) then (if x117009 ≥ 0 then (leveeref07_Right.l0 k (decide (x117009 < 4096)) (wrap64 (x5 + 1)) x117000 x117001 x117002 x117003 x117004 x117005 x117006 x117007 x117008 x117009 x117010 x117011) else (leveeref07_Right.l0 k false (wrap64 (x5 + 1)) x117000 x117001 x117002 x117003 x117004 x117005 x117006 x117007 x117008 x117009 x117010 x117011)) else (none))))))) else (leveeref07_Right.l0 k false (wrap64 (x5 + 1)) x117000 x117001 x117002 x117003 x117004 x117005 x117006 x117007 x117008 x117009 x117010 x117011)) else (if x4 = true then (if x117010 ≥ 0 then (if x117010 < 4096 then (if x117011 ≥ 0 then (some (decide (x117011 < 4096))) else (some false)) else (some false)) else (some false)) else (some false))
end
def leveeref07_Right.f (k : Nat) (a0_0 : Int) (a0_1 : Int) (a0_2 : Int) (a0_3 : Int) (a0_4 : Int) (a0_5 : Int) (a0_6 : Int) (a0_7 : Int) (a0_8 : Int) (a0_9 : Int) (a0_10 : Int) (a0_11 : Int) : Option (Bool) := if a0_0 = 0 then (some (a0_0 == 0 && (a0_1 == 0 && (a0_2 == 0 && (a0_3 == 0 && ((a0_4 == 0 && (a0_5 == 0 && (a0_6 == 0 && (a0_7 == 0 && (a0_8 == 0 && (a0_9 == 0)))))) && (a0_10 == 0 && (a0_11 == 0)))))))) else (if a0_0 ≥ 1 then (if a0_0 ≤ 3 then (if a0_1 ≥ 0 then (if a0_1 ≤ 1000 then (if a0_2 ≥ 0 then (if a0_2 ≤ 1066496 then (if a0_3 ≥ 1 then (leveeref07_Right.j0 k (decide (a0_3 ≤ 4611686018427387904)) a0_0 a0_1 a0_2 a0_3 a0_4 a0_5 a0_6 a0_7 a0_8 a0_9 a0_10 a0_11) else (leveeref07_Right.j0 k false a0_0 a0_1 a0_2 a0_3 a0_4 a0_5 a0_6 a0_7 a0_8 a0_9 a0_10 a0_11)) else (leveeref07_Right.j0 k false a0_0 a0_1 a0_2 a0_3 a0_4 a0_5 a0_6 a0_7 a0_8 a0_9 a0_10 a0_11)) else (leveeref07_Right.j0 k false a0_0 a0_1 a0_2 a0_3 a0_4 a0_5 a0_6 a0_7 a0_8 a0_9 a0_10 a0_11)) else (leveeref07_Right.j0 k false a0_0 a0_1 a0_2 a0_3 a0_4 a0_5 a0_6 a0_7 a0_8 a0_9 a0_10 a0_11)) else (leveeref07_Right.j0 k false a0_0 a0_1 a0_2 a0_3 a0_4 a0_5 a0_6 a0_7 a0_8 a0_9 a0_10 a0_11)) else (leveeref07_Right.j0 k false a0_0 a0_1 a0_2 a0_3 a0_4 a0_5 a0_6 a0_7 a0_8 a0_9 a0_10 a0_11)) else (leveeref07_Right.j0 k false a0_0 a0_1 a0_2 a0_3 a0_4 a0_5 a0_6 a0_7 a0_8 a0_9 a0_10 a0_11))
theorem leveeref07_Right.mono_l : ∀ k, (∀ y0 y1 y2 y3 y4 y5 y6 y7 y8 y9 y10 y11 y12, LeO (leveeref07_Right.j0 k y0 y1 y2 y3 y4 y5 y6 y7 y8 y9 y10 y11 y12) (leveeref07_Right.j0 (k + 1) y0 y1 y2 y3 y4 y5 y6 y7 y8 y9 y10 y11 y12)) ∧ (∀ y0 y1 y2 y3 y4 y5 y6 y7 y8 y9 y10 y11 y12, LeO (leveeref07_Right.j1 k y0 y1 y2 y3 y4 y5 y6 y7 y8 y9 y10 y11 y12) (leveeref07_Right.j1 (k + 1) y0 y1 y2 y3 y4 y5 y6 y7 y8 y9 y10 y11 y12)) ∧ (∀ y0 y1 y2 y3 y4 y5 y6 y7 y8 y9 y10 y11 y12 y13, LeO (leveeref07_Right.l0 k y0 y1 y2 y3 y4 y5 y6 y7 y8 y9 y10 y11 y12 y13) (leveeref07_Right.l0 (k + 1) y0 y1 y2 y3 y4 y5 y6 y7 y8 y9 y10 y11 y12 y13))
 | 0 => ⟨fun _ _ _ _ _ _ _ _ _ _ _ _ _ r h => by simp [leveeref07_Right.j0] at h, fun _ _ _ _ _ _ _ _ _ _ _ _ _ r h => by simp [leveeref07_Right.j1] at h, fun _ _ _ _ _ _ _ _ _ _ _ _ _ _ r h => by simp [leveeref07_Right.l0] at h⟩
 | k + 1 => by
  obtain ⟨ih0, ih1, ih2⟩ := leveeref07_Right.mono_l k
  refine ⟨?_, ?_, ?_⟩
  ·intro y0 y1 y2 y3 y4 y5 y6 y7 y8 y9 y10 y11 y12
   unfold leveeref07_Right.j0
   repeat' first
   | (with_reducible exact ih0 _ _ _ _ _ _ _ _ _ _ _ _ _)
   | (with_reducible exact ih1 _ _ _ _ _ _ _ _ _ _ _ _ _)
   | (with_reducible exact ih2 _ _ _ _ _ _ _ _ _ _ _ _ _ _)
   | (with_reducible exact LeO.refl _)
   | (with_reducible exact LeO.none _)
   | (with_reducible refine LeO.ite ?_ ?_)
   | (with_reducible refine LeO.bind ?_ (fun _ => ?_))
   | exact ih0 _ _ _ _ _ _ _ _ _ _ _ _ _
   | exact ih1 _ _ _ _ _ _ _ _ _ _ _ _ _
   | exact ih2 _ _ _ _ _ _ _ _ _ _ _ _ _ _
   | exact LeO.none _
   | refine LeO.ite ?_ ?_
   | refine LeO.bind ?_ (fun _ => ?_)
  ·intro y0 y1 y2 y3 y4 y5 y6 y7 y8 y9 y10 y11 y12
   unfold leveeref07_Right.j1
   repeat' first
   | (with_reducible exact ih0 _ _ _ _ _ _ _ _ _ _ _ _ _)
   | (with_reducible exact ih1 _ _ _ _ _ _ _ _ _ _ _ _ _)
   | (with_reducible exact ih2 _ _ _ _ _ _ _ _ _ _ _ _ _ _)
   | (with_reducible exact LeO.refl _)
   | (with_reducible exact LeO.none _)
   | (with_reducible refine LeO.ite ?_ ?_)
   | (with_reducible refine LeO.bind ?_ (fun _ => ?_))
   | exact ih0 _ _ _ _ _ _ _ _ _ _ _ _ _
   | exact ih1 _ _ _ _ _ _ _ _ _ _ _ _ _
   | exact ih2 _ _ _ _ _ _ _ _ _ _ _ _ _ _
   | exact LeO.none _
   | refine LeO.ite ?_ ?_
   | refine LeO.bind ?_ (fun _ => ?_)
  ·intro y0 y1 y2 y3 y4 y5 y6 y7 y8 y9 y10 y11 y12 y13
   unfold leveeref07_Right.l0
   repeat' first
   | (with_reducible exact ih0 _ _ _ _ _ _ _ _ _ _ _ _ _)
   | (with_reducible exact ih1 _ _ _ _ _ _ _ _ _ _ _ _ _)
   | (with_reducible exact ih2 _ _ _ _ _ _ _ _ _ _ _ _ _ _)
   | (with_reducible exact LeO.refl _)
   | (with_reducible exact LeO.none _)
   | (with_reducible refine LeO.ite ?_ ?_)
   | (with_reducible refine LeO.bind ?_ (fun _ => ?_))
   | exact ih0 _ _ _ _ _ _ _ _ _ _ _ _ _
   | exact ih1 _ _ _ _ _ _ _ _ _ _ _ _ _
   | exact ih2 _ _ _ _ _ _ _ _ _ _ _ _ _ _
   | exact LeO.none _
   | refine LeO.ite ?_ ?_
   | refine LeO.bind ?_ (fun _ => ?_)
theorem leveeref07_Right.mono : ∀ a0 a1 a2 a3 a4 a5 a6 a7 a8 a9 a10 a11 k, LeO (leveeref07_Right.f k a0 a1 a2 a3 a4 a5 a6 a7 a8 a9 a10 a11) (leveeref07_Right.f (k + 1) a0 a1 a2 a3 a4 a5 a6 a7 a8 a9 a10 a11) := by
 intro a0 a1 a2 a3 a4 a5 a6 a7 a8 a9 a10 a11 k
 obtain ⟨ih0, ih1, ih2⟩ := leveeref07_Right.mono_l k
 unfold leveeref07_Right.f
 repeat' first
   | (with_reducible exact ih0 _ _ _ _ _ _ _ _ _ _ _ _ _)
   | (with_reducible exact ih1 _ _ _ _ _ _ _ _ _ _ _ _ _)
   | (with_reducible exact ih2 _ _ _ _ _ _ _ _ _ _ _ _ _ _)
   | (with_reducible exact LeO.refl _)
   | (with_reducible exact LeO.none _)
   | (with_reducible refine LeO.ite ?_ ?_)
   | (with_reducible refine LeO.bind ?_ (fun _ => ?_))
   | exact ih0 _ _ _ _ _ _ _ _ _ _ _ _ _
   | exact ih1 _ _ _ _ _ _ _ _ _ _ _ _ _
   | exact ih2 _ _ _ _ _ _ _ _ _ _ _ _ _ _
   | exact LeO.none _
   | refine LeO.ite ?_ ?_
   | refine LeO.bind ?_ (fun _ => ?_)
set_option maxHeartbeats 8000000 in
set_option maxRecDepth 100000 in
theorem leveeref07_Right.calls (k : Nat) (a0_0 : Int) (a0_1 : Int) (a0_2 : Int) (a0_3 : Int) (a0_4 : Int) (a0_5 : Int) (a0_6 : Int) (a0_7 : Int) (a0_8 : Int) (a0_9 : Int) (a0_10 : Int) (a0_11 : Int) (r : Bool) (w : World) (h : leveeref07_Right.f k a0_0 a0_1 a0_2 a0_3 a0_4 a0_5 a0_6 a0_7 a0_8 a0_9 a0_10 a0_11 = some r) :
  Calls Try.prog 12 #[.agg #[.int .i64 a0_0, .int .i64 a0_1, .int .i64 a0_2, .int .i64 a0_3, .int .i64 a0_4, .int .i64 a0_5, .int .i64 a0_6, .int .i64 a0_7, .int .i64 a0_8, .int .i64 a0_9, .int .i64 a0_10, .int .i64 a0_11]] w fun e w' => e = .returned (.bool r) ∧ Below w.heap.size w w' := by
 have hu24 := Try.underlying24
 have HB := Aside0.mk (Below.refl w.heap.size w)
 have H : (if a0_0 = 0 then (some (a0_0 == 0 && (a0_1 == 0 && (a0_2 == 0 && (a0_3 == 0 && ((a0_4 == 0 && (a0_5 == 0 && (a0_6 == 0 && (a0_7 == 0 && (a0_8 == 0 && (a0_9 == 0)))))) && (a0_10 == 0 && (a0_11 == 0)))))))) else (if a0_0 ≥ 1 then (if a0_0 ≤ 3 then (if a0_1 ≥ 0 then (if a0_1 ≤ 1000 then (if a0_2 ≥ 0 then (if a0_2 ≤ 1066496 then (if a0_3 ≥ 1 then (leveeref07_Right.j0 k (decide (a0_3 ≤ 4611686018427387904)) a0_0 a0_1 a0_2 a0_3 a0_4 a0_5 a0_6 a0_7 a0_8 a0_9 a0_10 a0_11) else (leveeref07_Right.j0 k false a0_0 a0_1 a0_2 a0_3 a0_4 a0_5 a0_6 a0_7 a0_8 a0_9 a0_10 a0_11)) else (leveeref07_Right.j0 k false a0_0 a0_1 a0_2 a0_3 a0_4 a0_5 a0_6 a0_7 a0_8 a0_9 a0_10 a0_11)) else (leveeref07_Right.j0 k false a0_0 a0_1 a0_2 a0_3 a0_4 a0_5 a0_6 a0_7 a0_8 a0_9 a0_10 a0_11)) else (leveeref07_Right.j0 k false a0_0 a0_1 a0_2 a0_3 a0_4 a0_5 a0_6 a0_7 a0_8 a0_9 a0_10 a0_11)) else (leveeref07_Right.j0 k false a0_0 a0_1 a0_2 a0_3 a0_4 a0_5 a0_6 a0_7 a0_8 a0_9 a0_10 a0_11)) else (leveeref07_Right.j0 k false a0_0 a0_1 a0_2 a0_3 a0_4 a0_5 a0_6 a0_7 a0_8 a0_9 a0_10 a0_11)) else (leveeref07_Right.j0 k false a0_0 a0_1 a0_2 a0_3 a0_4 a0_5 a0_6 a0_7 a0_8 a0_9 a0_10 a0_11))) = some r := h
 clear h
 by_cases c2 : a0_0 = 0
 ·rw [if_pos c2] at H
  have c2b0 : (a0_0 == 0) = true := beq_iff_eq.mpr c2
  have c2b1 : (a0_0 != 0) = false := bne_eq_false_iff_eq.mpr c2
  clear c2
  obtain rfl := Option.some.inj H
  go_enter Try.func12, Try.ntmps12
  go_wp2_with (first | ((with_reducible refine gate_dst (N := 1) rfl ?_); refine box_event ?hg (N := 1) ?hd (cs := #[.int .i64 a0_0, .int .i64 a0_1, .int .i64 a0_2, .int .i64 a0_3, .int .i64 a0_4, .int .i64 a0_5, .int .i64 a0_6, .int .i64 a0_7, .int .i64 a0_8, .int .i64 a0_9, .int .i64 a0_10, .int .i64 a0_11]) (t := 24) ?hr ?_; (case hd => rfl); (case hg => rfl); (case hr => first | (go_simp; done) | (go_simp; rfl)); intro gb116 hg w3 hbox hb; have n0_ := Aside0.mk (below_step (by repeat (first | (with_reducible first | exact HB.out | apply below_alloc | apply pw_below_drewN | apply below_drew1) | exact HB.out)) hb); have n1_ := Aside0.mk (hbox); have n2_ := Aside0.mk ((by rw [hg]; exact (below_size (by repeat (first | (with_reducible first | exact HB.out | apply below_alloc | apply pw_below_drewN | apply below_drew1) | exact HB.out))) : w.heap.size ≤ gb116)); have n3_ := Aside0.mk ((by rw [hg]; exact (below_size (by repeat (first | (with_reducible first | exact HB.out | apply below_alloc | apply pw_below_drewN | apply below_drew1) | exact HB.out))) : w.heap.size ≤ gb116)); clear HB; have HB := n0_; have BK116 := n1_; have GW116 := n2_; have GE116 := n3_; clear n0_ n1_ n2_ n3_; clear hb hbox hg) | ((with_reducible refine gate_dst (N := 3) rfl ?_); refine box_event ?hg (N := 3) ?hd (cs := #[.int .i64 0, .int .i64 0, .int .i64 0, .int .i64 0, .int .i64 0, .int .i64 0, .int .i64 0, .int .i64 0, .int .i64 0, .int .i64 0, .int .i64 0, .int .i64 0]) (t := 24) ?hr ?_; (case hd => rfl); (case hg => rfl); (case hr => first | (go_simp; done) | (go_simp; rfl)); intro gb117 hg w4 hbox hb; have n0_ := Aside0.mk (blk_below (g := gb116) (o := .cells #[.int .i64 a0_0, .int .i64 a0_1, .int .i64 a0_2, .int .i64 a0_3, .int .i64 a0_4, .int .i64 a0_5, .int .i64 a0_6, .int .i64 a0_7, .int .i64 a0_8, .int .i64 a0_9, .int .i64 a0_10, .int .i64 a0_11] 24 (0, 0)) (by (with_reducible repeat (first | refine blk_drewN ?_ _ | refine blk_drew ?_ | refine blk_alloc ?_ _)); exact BK116.out) hb); have n1_ := Aside0.mk (below_step (by repeat (first | (with_reducible first | exact HB.out | apply below_alloc | apply pw_below_drewN | apply below_drew1 | refine below_set ?_ GE116.out) | exact HB.out)) hb); have n2_ := Aside0.mk (hbox); have n3_ := Aside0.mk ((by rw [hg]; exact (below_size (by repeat (first | (with_reducible first | exact HB.out | apply below_alloc | apply pw_below_drewN | apply below_drew1 | refine below_set ?_ GE116.out) | exact HB.out))) : w.heap.size ≤ gb117)); have n4_ := Aside0.mk ((by rw [hg]; exact (below_size (by repeat (first | (with_reducible first | exact HB.out | apply below_alloc | apply pw_below_drewN | apply below_drew1 | refine below_set ?_ GE116.out) | exact HB.out))) : w.heap.size ≤ gb117)); have n5_ := Aside0.mk ((by rw [hg]; exact Nat.ne_of_lt (blk_lt (g := gb116) (o := .cells #[.int .i64 a0_0, .int .i64 a0_1, .int .i64 a0_2, .int .i64 a0_3, .int .i64 a0_4, .int .i64 a0_5, .int .i64 a0_6, .int .i64 a0_7, .int .i64 a0_8, .int .i64 a0_9, .int .i64 a0_10, .int .i64 a0_11] 24 (0, 0)) (by (with_reducible repeat (first | refine blk_drewN ?_ _ | refine blk_drew ?_ | refine blk_alloc ?_ _)); exact BK116.out)) : gb116 ≠ gb117)); have n6_ := Aside0.mk ((by rw [hg]; exact Nat.ne_of_gt (blk_lt (g := gb116) (o := .cells #[.int .i64 a0_0, .int .i64 a0_1, .int .i64 a0_2, .int .i64 a0_3, .int .i64 a0_4, .int .i64 a0_5, .int .i64 a0_6, .int .i64 a0_7, .int .i64 a0_8, .int .i64 a0_9, .int .i64 a0_10, .int .i64 a0_11] 24 (0, 0)) (by (with_reducible repeat (first | refine blk_drewN ?_ _ | refine blk_drew ?_ | refine blk_alloc ?_ _)); exact BK116.out)) : gb117 ≠ gb116)); clear BK116; clear HB; have BK116 := n0_; have HB := n1_; have BK117 := n2_; have GW117 := n3_; have GE117 := n4_; have NB116_117 := n5_; have NB117_116 := n6_; clear n0_ n1_ n2_ n3_ n4_ n5_ n6_; clear hb hbox hg; have hnb5 := NB117_116.out; have hnc5 := NB116_117.out; have q_ := cells12 BK117.out; have hcz6_0 := q_.c0; have hcz6_1 := q_.c1; have hcz6_2 := q_.c2; have hcz6_3 := q_.c3; have hcz6_4 := q_.c4; have hcz6_5 := q_.c5; have hcz6_6 := q_.c6; have hcz6_7 := q_.c7; have hcz6_8 := q_.c8; have hcz6_9 := q_.c9; have hcz6_10 := q_.c10; have hcz6_11 := q_.c11; have hfz6_0 := q_.f0; have hfz6_1 := q_.f1; have hfz6_2 := q_.f2; have hfz6_3 := q_.f3; have hfz6_4 := q_.f4; have hfz6_5 := q_.f5; have hfz6_6 := q_.f6; have hfz6_7 := q_.f7; have hfz6_8 := q_.f8; have hfz6_9 := q_.f9; have hfz6_10 := q_.f10; have hfz6_11 := q_.f11; clear q_; have q_ := cells12 BK116.out; have hcz7_0 := q_.c0; have hcz7_1 := q_.c1; have hcz7_2 := q_.c2; have hcz7_3 := q_.c3; have hcz7_4 := q_.c4; have hcz7_5 := q_.c5; have hcz7_6 := q_.c6; have hcz7_7 := q_.c7; have hcz7_8 := q_.c8; have hcz7_9 := q_.c9; have hcz7_10 := q_.c10; have hcz7_11 := q_.c11; have hfz7_0 := q_.f0; have hfz7_1 := q_.f1; have hfz7_2 := q_.f2; have hfz7_3 := q_.f3; have hfz7_4 := q_.f4; have hfz7_5 := q_.f5; have hfz7_6 := q_.f6; have hfz7_7 := q_.f7; have hfz7_8 := q_.f8; have hfz7_9 := q_.f9; have hfz7_10 := q_.f10; have hfz7_11 := q_.f11; clear q_))
  go_ret
  exact ⟨by first | rfl | (simp [errW_none, errW_some] <;> rfl) | (simp [*, errW_none, errW_some] <;> rfl), by repeat (first | (with_reducible first | exact HB.out | apply below_alloc | apply pw_below_drewN | apply below_drew1 | refine below_set ?_ GE116.out | refine below_set ?_ GE117.out) | exact HB.out)⟩
 ·rw [if_neg c2] at H
  have c2b0 : (a0_0 == 0) = false := beq_eq_false_iff_ne.mpr c2
  have c2b1 : (a0_0 != 0) = true := bne_iff_ne.mpr c2
  have HC8 := Aside0.mk H
  clear H
  go_enter Try.func12, Try.ntmps12
  go_upto_region 4 with (first | ((with_reducible refine gate_dst (N := 1) rfl ?_); refine box_event ?hg (N := 1) ?hd (cs := #[.int .i64 a0_0, .int .i64 a0_1, .int .i64 a0_2, .int .i64 a0_3, .int .i64 a0_4, .int .i64 a0_5, .int .i64 a0_6, .int .i64 a0_7, .int .i64 a0_8, .int .i64 a0_9, .int .i64 a0_10, .int .i64 a0_11]) (t := 24) ?hr ?_; (case hd => rfl); (case hg => rfl); (case hr => first | (go_simp; done) | (go_simp; rfl)); intro gb116 hg w9 hbox hb; have n0_ := Aside0.mk (below_step (by repeat (first | (with_reducible first | exact HB.out | apply below_alloc | apply pw_below_drewN | apply below_drew1) | exact HB.out)) hb); have n1_ := Aside0.mk (hbox); have n2_ := Aside0.mk ((by rw [hg]; exact (below_size (by repeat (first | (with_reducible first | exact HB.out | apply below_alloc | apply pw_below_drewN | apply below_drew1) | exact HB.out))) : w.heap.size ≤ gb116)); have n3_ := Aside0.mk ((by rw [hg]; exact (below_size (by repeat (first | (with_reducible first | exact HB.out | apply below_alloc | apply pw_below_drewN | apply below_drew1) | exact HB.out))) : w.heap.size ≤ gb116)); clear HB; have HB := n0_; have BK116 := n1_; have GW116 := n2_; have GE116 := n3_; clear n0_ n1_ n2_ n3_; clear hb hbox hg) | ((with_reducible refine gate_dst (N := 3) rfl ?_); refine box_event ?hg (N := 3) ?hd (cs := #[.int .i64 0, .int .i64 0, .int .i64 0, .int .i64 0, .int .i64 0, .int .i64 0, .int .i64 0, .int .i64 0, .int .i64 0, .int .i64 0, .int .i64 0, .int .i64 0]) (t := 24) ?hr ?_; (case hd => rfl); (case hg => rfl); (case hr => first | (go_simp; done) | (go_simp; rfl)); intro gb117 hg w10 hbox hb; have n0_ := Aside0.mk (blk_below (g := gb116) (o := .cells #[.int .i64 a0_0, .int .i64 a0_1, .int .i64 a0_2, .int .i64 a0_3, .int .i64 a0_4, .int .i64 a0_5, .int .i64 a0_6, .int .i64 a0_7, .int .i64 a0_8, .int .i64 a0_9, .int .i64 a0_10, .int .i64 a0_11] 24 (0, 0)) (by (with_reducible repeat (first | refine blk_drewN ?_ _ | refine blk_drew ?_ | refine blk_alloc ?_ _)); exact BK116.out) hb); have n1_ := Aside0.mk (below_step (by repeat (first | (with_reducible first | exact HB.out | apply below_alloc | apply pw_below_drewN | apply below_drew1 | refine below_set ?_ GE116.out) | exact HB.out)) hb); have n2_ := Aside0.mk (hbox); have n3_ := Aside0.mk ((by rw [hg]; exact (below_size (by repeat (first | (with_reducible first | exact HB.out | apply below_alloc | apply pw_below_drewN | apply below_drew1 | refine below_set ?_ GE116.out) | exact HB.out))) : w.heap.size ≤ gb117)); have n4_ := Aside0.mk ((by rw [hg]; exact (below_size (by repeat (first | (with_reducible first | exact HB.out | apply below_alloc | apply pw_below_drewN | apply below_drew1 | refine below_set ?_ GE116.out) | exact HB.out))) : w.heap.size ≤ gb117)); have n5_ := Aside0.mk ((by rw [hg]; exact Nat.ne_of_lt (blk_lt (g := gb116) (o := .cells #[.int .i64 a0_0, .int .i64 a0_1, .int .i64 a0_2, .int .i64 a0_3, .int .i64 a0_4, .int .i64 a0_5, .int .i64 a0_6, .int .i64 a0_7, .int .i64 a0_8, .int .i64 a0_9, .int .i64 a0_10, .int .i64 a0_11] 24 (0, 0)) (by (with_reducible repeat (first | refine blk_drewN ?_ _ | refine blk_drew ?_ | refine blk_alloc ?_ _)); exact BK116.out)) : gb116 ≠ gb117)); have n6_ := Aside0.mk ((by rw [hg]; exact Nat.ne_of_gt (blk_lt (g := gb116) (o := .cells #[.int .i64 a0_0, .int .i64 a0_1, .int .i64 a0_2, .int .i64 a0_3, .int .i64 a0_4, .int .i64 a0_5, .int .i64 a0_6, .int .i64 a0_7, .int .i64 a0_8, .int .i64 a0_9, .int .i64 a0_10, .int .i64 a0_11] 24 (0, 0)) (by (with_reducible repeat (first | refine blk_drewN ?_ _ | refine blk_drew ?_ | refine blk_alloc ?_ _)); exact BK116.out)) : gb117 ≠ gb116)); clear BK116; clear HB; have BK116 := n0_; have HB := n1_; have BK117 := n2_; have GW117 := n3_; have GE117 := n4_; have NB116_117 := n5_; have NB117_116 := n6_; clear n0_ n1_ n2_ n3_ n4_ n5_ n6_; clear hb hbox hg; have hnb11 := NB117_116.out; have hnc11 := NB116_117.out; have q_ := cells12 BK117.out; have hcz12_0 := q_.c0; have hcz12_1 := q_.c1; have hcz12_2 := q_.c2; have hcz12_3 := q_.c3; have hcz12_4 := q_.c4; have hcz12_5 := q_.c5; have hcz12_6 := q_.c6; have hcz12_7 := q_.c7; have hcz12_8 := q_.c8; have hcz12_9 := q_.c9; have hcz12_10 := q_.c10; have hcz12_11 := q_.c11; have hfz12_0 := q_.f0; have hfz12_1 := q_.f1; have hfz12_2 := q_.f2; have hfz12_3 := q_.f3; have hfz12_4 := q_.f4; have hfz12_5 := q_.f5; have hfz12_6 := q_.f6; have hfz12_7 := q_.f7; have hfz12_8 := q_.f8; have hfz12_9 := q_.f9; have hfz12_10 := q_.f10; have hfz12_11 := q_.f11; clear q_; have q_ := cells12 BK116.out; have hcz13_0 := q_.c0; have hcz13_1 := q_.c1; have hcz13_2 := q_.c2; have hcz13_3 := q_.c3; have hcz13_4 := q_.c4; have hcz13_5 := q_.c5; have hcz13_6 := q_.c6; have hcz13_7 := q_.c7; have hcz13_8 := q_.c8; have hcz13_9 := q_.c9; have hcz13_10 := q_.c10; have hcz13_11 := q_.c11; have hfz13_0 := q_.f0; have hfz13_1 := q_.f1; have hfz13_2 := q_.f2; have hfz13_3 := q_.f3; have hfz13_4 := q_.f4; have hfz13_5 := q_.f5; have hfz13_6 := q_.f6; have hfz13_7 := q_.f7; have hfz13_8 := q_.f8; have hfz13_9 := q_.f9; have hfz13_10 := q_.f10; have hfz13_11 := q_.f11; clear q_))
  (try simp only [Act.put, List.setIfInBounds_toArray, List.set_cons_zero, List.set_cons_succ])
  go_cut [4] (fun v4 wc => ∃ (kq : Nat) (x4_7 : Bool), v4 = .bool x4_7 ∧ Aside0 (leveeref07_Right.j0 kq x4_7 a0_0 a0_1 a0_2 a0_3 a0_4 a0_5 a0_6 a0_7 a0_8 a0_9 a0_10 a0_11 = some r) ∧ Aside0 (kq ≤ k) ∧ Aside0 (wc.heap[gb116]? = some (.cells #[.int .i64 a0_0, .int .i64 a0_1, .int .i64 a0_2, .int .i64 a0_3, .int .i64 a0_4, .int .i64 a0_5, .int .i64 a0_6, .int .i64 a0_7, .int .i64 a0_8, .int .i64 a0_9, .int .i64 a0_10, .int .i64 a0_11] 24 (0, 0))) ∧ Aside0 (wc.heap[gb117]? = some (.cells #[.int .i64 0, .int .i64 0, .int .i64 0, .int .i64 0, .int .i64 0, .int .i64 0, .int .i64 0, .int .i64 0, .int .i64 0, .int .i64 0, .int .i64 0, .int .i64 0] 24 (0, 0))) ∧ Aside0 (Below w.heap.size w wc))
  case first =>
   have H := HC8.out
   clear HC8
   by_cases c14 : a0_0 ≥ 1
   ·rw [if_pos c14] at H
    have c14b0 : decide (1 ≤ a0_0) = true := decide_eq_true c14
    clear c14
    (first | rw [c14b0] | (simp only [i64_w, i32_w]; rw [c14b0]) | skip)
    by_cases c15 : a0_0 ≤ 3
    ·rw [if_pos c15] at H
     have c15b0 : decide (a0_0 ≤ 3) = true := decide_eq_true c15
     clear c15
     by_cases c16 : a0_1 ≥ 0
     ·rw [if_pos c16] at H
      have c16b0 : decide (0 ≤ a0_1) = true := decide_eq_true c16
      clear c16
      by_cases c17 : a0_1 ≤ 1000
      ·rw [if_pos c17] at H
       have c17b0 : decide (a0_1 ≤ 1000) = true := decide_eq_true c17
       clear c17
       by_cases c18 : a0_2 ≥ 0
       ·rw [if_pos c18] at H
        have c18b0 : decide (0 ≤ a0_2) = true := decide_eq_true c18
        clear c18
        by_cases c19 : a0_2 ≤ 1066496
        ·rw [if_pos c19] at H
         have c19b0 : decide (a0_2 ≤ 1066496) = true := decide_eq_true c19
         clear c19
         by_cases c20 : a0_3 ≥ 1
         ·rw [if_pos c20] at H
          have c20b0 : decide (1 ≤ a0_3) = true := decide_eq_true c20
          clear c20
          have H' := Aside0.mk H
          clear H
          have hnb21 := NB116_117.out
          have hnc21 := NB117_116.out
          have q_ := cells12 BK116.out; have hcz22_0 := q_.c0; have hcz22_1 := q_.c1; have hcz22_2 := q_.c2; have hcz22_3 := q_.c3; have hcz22_4 := q_.c4; have hcz22_5 := q_.c5; have hcz22_6 := q_.c6; have hcz22_7 := q_.c7; have hcz22_8 := q_.c8; have hcz22_9 := q_.c9; have hcz22_10 := q_.c10; have hcz22_11 := q_.c11; have hfz22_0 := q_.f0; have hfz22_1 := q_.f1; have hfz22_2 := q_.f2; have hfz22_3 := q_.f3; have hfz22_4 := q_.f4; have hfz22_5 := q_.f5; have hfz22_6 := q_.f6; have hfz22_7 := q_.f7; have hfz22_8 := q_.f8; have hfz22_9 := q_.f9; have hfz22_10 := q_.f10; have hfz22_11 := q_.f11; clear q_
          go_wp2
          go_meet
          case rel => exact ⟨_, (decide (a0_3 ≤ 4611686018427387904)), (by first | rfl | (simp; done) | (simp [*]; done)), H', ⟨by first | omega | exact Nat.le_refl _⟩, ⟨by (with_reducible repeat (first | refine blk_drewN ?_ _ | refine blk_drew ?_ | refine blk_alloc ?_ _)); refine blk_far12 ?_ NB116_117.out; (with_reducible repeat (first | refine blk_drewN ?_ _ | refine blk_drew ?_ | refine blk_alloc ?_ _)); exact BK116.out⟩, ⟨by (with_reducible repeat (first | refine blk_drewN ?_ _ | refine blk_drew ?_ | refine blk_alloc ?_ _)); refine blk_put12 (.int .i64 0) (.int .i64 0) (.int .i64 0) (.int .i64 0) (.int .i64 0) (.int .i64 0) (.int .i64 0) (.int .i64 0) (.int .i64 0) (.int .i64 0) (.int .i64 0) (.int .i64 0) ?_; (with_reducible repeat (first | refine blk_drewN ?_ _ | refine blk_drew ?_ | refine blk_alloc ?_ _)); exact BK117.out⟩, ⟨by repeat (first | (with_reducible first | exact HB.out | apply below_alloc | apply pw_below_drewN | apply below_drew1 | refine below_set ?_ GE116.out | refine below_set ?_ GE117.out) | exact HB.out)⟩⟩
         ·rw [if_neg c20] at H
          have c20b0 : decide (1 ≤ a0_3) = false := decide_eq_false c20
          clear c20
          have H' := Aside0.mk H
          clear H
          have hnb23 := NB116_117.out
          have hnc23 := NB117_116.out
          have q_ := cells12 BK116.out; have hcz24_0 := q_.c0; have hcz24_1 := q_.c1; have hcz24_2 := q_.c2; have hcz24_3 := q_.c3; have hcz24_4 := q_.c4; have hcz24_5 := q_.c5; have hcz24_6 := q_.c6; have hcz24_7 := q_.c7; have hcz24_8 := q_.c8; have hcz24_9 := q_.c9; have hcz24_10 := q_.c10; have hcz24_11 := q_.c11; have hfz24_0 := q_.f0; have hfz24_1 := q_.f1; have hfz24_2 := q_.f2; have hfz24_3 := q_.f3; have hfz24_4 := q_.f4; have hfz24_5 := q_.f5; have hfz24_6 := q_.f6; have hfz24_7 := q_.f7; have hfz24_8 := q_.f8; have hfz24_9 := q_.f9; have hfz24_10 := q_.f10; have hfz24_11 := q_.f11; clear q_
          go_wp2
          go_meet
          case rel => exact ⟨_, (false), (by first | rfl | (simp; done) | (simp [*]; done)), H', ⟨by first | omega | exact Nat.le_refl _⟩, ⟨by (with_reducible repeat (first | refine blk_drewN ?_ _ | refine blk_drew ?_ | refine blk_alloc ?_ _)); refine blk_far12 ?_ NB116_117.out; (with_reducible repeat (first | refine blk_drewN ?_ _ | refine blk_drew ?_ | refine blk_alloc ?_ _)); exact BK116.out⟩, ⟨by (with_reducible repeat (first | refine blk_drewN ?_ _ | refine blk_drew ?_ | refine blk_alloc ?_ _)); refine blk_put12 (.int .i64 0) (.int .i64 0) (.int .i64 0) (.int .i64 0) (.int .i64 0) (.int .i64 0) (.int .i64 0) (.int .i64 0) (.int .i64 0) (.int .i64 0) (.int .i64 0) (.int .i64 0) ?_; (with_reducible repeat (first | refine blk_drewN ?_ _ | refine blk_drew ?_ | refine blk_alloc ?_ _)); exact BK117.out⟩, ⟨by repeat (first | (with_reducible first | exact HB.out | apply below_alloc | apply pw_below_drewN | apply below_drew1 | refine below_set ?_ GE116.out | refine below_set ?_ GE117.out) | exact HB.out)⟩⟩
        ·rw [if_neg c19] at H
         have c19b0 : decide (a0_2 ≤ 1066496) = false := decide_eq_false c19
         clear c19
         have H' := Aside0.mk H
         clear H
         have hnb25 := NB116_117.out
         have hnc25 := NB117_116.out
         have q_ := cells12 BK116.out; have hcz26_0 := q_.c0; have hcz26_1 := q_.c1; have hcz26_2 := q_.c2; have hcz26_3 := q_.c3; have hcz26_4 := q_.c4; have hcz26_5 := q_.c5; have hcz26_6 := q_.c6; have hcz26_7 := q_.c7; have hcz26_8 := q_.c8; have hcz26_9 := q_.c9; have hcz26_10 := q_.c10; have hcz26_11 := q_.c11; have hfz26_0 := q_.f0; have hfz26_1 := q_.f1; have hfz26_2 := q_.f2; have hfz26_3 := q_.f3; have hfz26_4 := q_.f4; have hfz26_5 := q_.f5; have hfz26_6 := q_.f6; have hfz26_7 := q_.f7; have hfz26_8 := q_.f8; have hfz26_9 := q_.f9; have hfz26_10 := q_.f10; have hfz26_11 := q_.f11; clear q_
         go_wp2
         go_meet
         case rel => exact ⟨_, (false), (by first | rfl | (simp; done) | (simp [*]; done)), H', ⟨by first | omega | exact Nat.le_refl _⟩, ⟨by (with_reducible repeat (first | refine blk_drewN ?_ _ | refine blk_drew ?_ | refine blk_alloc ?_ _)); refine blk_far12 ?_ NB116_117.out; (with_reducible repeat (first | refine blk_drewN ?_ _ | refine blk_drew ?_ | refine blk_alloc ?_ _)); exact BK116.out⟩, ⟨by (with_reducible repeat (first | refine blk_drewN ?_ _ | refine blk_drew ?_ | refine blk_alloc ?_ _)); refine blk_put12 (.int .i64 0) (.int .i64 0) (.int .i64 0) (.int .i64 0) (.int .i64 0) (.int .i64 0) (.int .i64 0) (.int .i64 0) (.int .i64 0) (.int .i64 0) (.int .i64 0) (.int .i64 0) ?_; (with_reducible repeat (first | refine blk_drewN ?_ _ | refine blk_drew ?_ | refine blk_alloc ?_ _)); exact BK117.out⟩, ⟨by repeat (first | (with_reducible first | exact HB.out | apply below_alloc | apply pw_below_drewN | apply below_drew1 | refine below_set ?_ GE116.out | refine below_set ?_ GE117.out) | exact HB.out)⟩⟩
       ·rw [if_neg c18] at H
        have c18b0 : decide (0 ≤ a0_2) = false := decide_eq_false c18
        clear c18
        have H' := Aside0.mk H
        clear H
        have hnb27 := NB116_117.out
        have hnc27 := NB117_116.out
        have q_ := cells12 BK116.out; have hcz28_0 := q_.c0; have hcz28_1 := q_.c1; have hcz28_2 := q_.c2; have hcz28_3 := q_.c3; have hcz28_4 := q_.c4; have hcz28_5 := q_.c5; have hcz28_6 := q_.c6; have hcz28_7 := q_.c7; have hcz28_8 := q_.c8; have hcz28_9 := q_.c9; have hcz28_10 := q_.c10; have hcz28_11 := q_.c11; have hfz28_0 := q_.f0; have hfz28_1 := q_.f1; have hfz28_2 := q_.f2; have hfz28_3 := q_.f3; have hfz28_4 := q_.f4; have hfz28_5 := q_.f5; have hfz28_6 := q_.f6; have hfz28_7 := q_.f7; have hfz28_8 := q_.f8; have hfz28_9 := q_.f9; have hfz28_10 := q_.f10; have hfz28_11 := q_.f11; clear q_
        go_wp2
        go_meet
        case rel => exact ⟨_, (false), (by first | rfl | (simp; done) | (simp [*]; done)), H', ⟨by first | omega | exact Nat.le_refl _⟩, ⟨by (with_reducible repeat (first | refine blk_drewN ?_ _ | refine blk_drew ?_ | refine blk_alloc ?_ _)); refine blk_far12 ?_ NB116_117.out; (with_reducible repeat (first | refine blk_drewN ?_ _ | refine blk_drew ?_ | refine blk_alloc ?_ _)); exact BK116.out⟩, ⟨by (with_reducible repeat (first | refine blk_drewN ?_ _ | refine blk_drew ?_ | refine blk_alloc ?_ _)); refine blk_put12 (.int .i64 0) (.int .i64 0) (.int .i64 0) (.int .i64 0) (.int .i64 0) (.int .i64 0) (.int .i64 0) (.int .i64 0) (.int .i64 0) (.int .i64 0) (.int .i64 0) (.int .i64 0) ?_; (with_reducible repeat (first | refine blk_drewN ?_ _ | refine blk_drew ?_ | refine blk_alloc ?_ _)); exact BK117.out⟩, ⟨by repeat (first | (with_reducible first | exact HB.out | apply below_alloc | apply pw_below_drewN | apply below_drew1 | refine below_set ?_ GE116.out | refine below_set ?_ GE117.out) | exact HB.out)⟩⟩
      ·rw [if_neg c17] at H
       have c17b0 : decide (a0_1 ≤ 1000) = false := decide_eq_false c17
       clear c17
       have H' := Aside0.mk H
       clear H
       have hnb29 := NB116_117.out
       have hnc29 := NB117_116.out
       have q_ := cells12 BK116.out; have hcz30_0 := q_.c0; have hcz30_1 := q_.c1; have hcz30_2 := q_.c2; have hcz30_3 := q_.c3; have hcz30_4 := q_.c4; have hcz30_5 := q_.c5; have hcz30_6 := q_.c6; have hcz30_7 := q_.c7; have hcz30_8 := q_.c8; have hcz30_9 := q_.c9; have hcz30_10 := q_.c10; have hcz30_11 := q_.c11; have hfz30_0 := q_.f0; have hfz30_1 := q_.f1; have hfz30_2 := q_.f2; have hfz30_3 := q_.f3; have hfz30_4 := q_.f4; have hfz30_5 := q_.f5; have hfz30_6 := q_.f6; have hfz30_7 := q_.f7; have hfz30_8 := q_.f8; have hfz30_9 := q_.f9; have hfz30_10 := q_.f10; have hfz30_11 := q_.f11; clear q_
       go_wp2
       go_meet
       case rel => exact ⟨_, (false), (by first | rfl | (simp; done) | (simp [*]; done)), H', ⟨by first | omega | exact Nat.le_refl _⟩, ⟨by (with_reducible repeat (first | refine blk_drewN ?_ _ | refine blk_drew ?_ | refine blk_alloc ?_ _)); refine blk_far12 ?_ NB116_117.out; (with_reducible repeat (first | refine blk_drewN ?_ _ | refine blk_drew ?_ | refine blk_alloc ?_ _)); exact BK116.out⟩, ⟨by (with_reducible repeat (first | refine blk_drewN ?_ _ | refine blk_drew ?_ | refine blk_alloc ?_ _)); refine blk_put12 (.int .i64 0) (.int .i64 0) (.int .i64 0) (.int .i64 0) (.int .i64 0) (.int .i64 0) (.int .i64 0) (.int .i64 0) (.int .i64 0) (.int .i64 0) (.int .i64 0) (.int .i64 0) ?_; (with_reducible repeat (first | refine blk_drewN ?_ _ | refine blk_drew ?_ | refine blk_alloc ?_ _)); exact BK117.out⟩, ⟨by repeat (first | (with_reducible first | exact HB.out | apply below_alloc | apply pw_below_drewN | apply below_drew1 | refine below_set ?_ GE116.out | refine below_set ?_ GE117.out) | exact HB.out)⟩⟩
     ·rw [if_neg c16] at H
      have c16b0 : decide (0 ≤ a0_1) = false := decide_eq_false c16
      clear c16
      have H' := Aside0.mk H
      clear H
      have hnb31 := NB116_117.out
      have hnc31 := NB117_116.out
      have q_ := cells12 BK116.out; have hcz32_0 := q_.c0; have hcz32_1 := q_.c1; have hcz32_2 := q_.c2; have hcz32_3 := q_.c3; have hcz32_4 := q_.c4; have hcz32_5 := q_.c5; have hcz32_6 := q_.c6; have hcz32_7 := q_.c7; have hcz32_8 := q_.c8; have hcz32_9 := q_.c9; have hcz32_10 := q_.c10; have hcz32_11 := q_.c11; have hfz32_0 := q_.f0; have hfz32_1 := q_.f1; have hfz32_2 := q_.f2; have hfz32_3 := q_.f3; have hfz32_4 := q_.f4; have hfz32_5 := q_.f5; have hfz32_6 := q_.f6; have hfz32_7 := q_.f7; have hfz32_8 := q_.f8; have hfz32_9 := q_.f9; have hfz32_10 := q_.f10; have hfz32_11 := q_.f11; clear q_
      go_wp2
      go_meet
      case rel => exact ⟨_, (false), (by first | rfl | (simp; done) | (simp [*]; done)), H', ⟨by first | omega | exact Nat.le_refl _⟩, ⟨by (with_reducible repeat (first | refine blk_drewN ?_ _ | refine blk_drew ?_ | refine blk_alloc ?_ _)); refine blk_far12 ?_ NB116_117.out; (with_reducible repeat (first | refine blk_drewN ?_ _ | refine blk_drew ?_ | refine blk_alloc ?_ _)); exact BK116.out⟩, ⟨by (with_reducible repeat (first | refine blk_drewN ?_ _ | refine blk_drew ?_ | refine blk_alloc ?_ _)); refine blk_put12 (.int .i64 0) (.int .i64 0) (.int .i64 0) (.int .i64 0) (.int .i64 0) (.int .i64 0) (.int .i64 0) (.int .i64 0) (.int .i64 0) (.int .i64 0) (.int .i64 0) (.int .i64 0) ?_; (with_reducible repeat (first | refine blk_drewN ?_ _ | refine blk_drew ?_ | refine blk_alloc ?_ _)); exact BK117.out⟩, ⟨by repeat (first | (with_reducible first | exact HB.out | apply below_alloc | apply pw_below_drewN | apply below_drew1 | refine below_set ?_ GE116.out | refine below_set ?_ GE117.out) | exact HB.out)⟩⟩
    ·rw [if_neg c15] at H
     have c15b0 : decide (a0_0 ≤ 3) = false := decide_eq_false c15
     clear c15
     have H' := Aside0.mk H
     clear H
     have hnb33 := NB116_117.out
     have hnc33 := NB117_116.out
     have q_ := cells12 BK116.out; have hcz34_0 := q_.c0; have hcz34_1 := q_.c1; have hcz34_2 := q_.c2; have hcz34_3 := q_.c3; have hcz34_4 := q_.c4; have hcz34_5 := q_.c5; have hcz34_6 := q_.c6; have hcz34_7 := q_.c7; have hcz34_8 := q_.c8; have hcz34_9 := q_.c9; have hcz34_10 := q_.c10; have hcz34_11 := q_.c11; have hfz34_0 := q_.f0; have hfz34_1 := q_.f1; have hfz34_2 := q_.f2; have hfz34_3 := q_.f3; have hfz34_4 := q_.f4; have hfz34_5 := q_.f5; have hfz34_6 := q_.f6; have hfz34_7 := q_.f7; have hfz34_8 := q_.f8; have hfz34_9 := q_.f9; have hfz34_10 := q_.f10; have hfz34_11 := q_.f11; clear q_
     go_wp2
     go_meet
     case rel => exact ⟨_, (false), (by first | rfl | (simp; done) | (simp [*]; done)), H', ⟨by first | omega | exact Nat.le_refl _⟩, ⟨by (with_reducible repeat (first | refine blk_drewN ?_ _ | refine blk_drew ?_ | refine blk_alloc ?_ _)); refine blk_far12 ?_ NB116_117.out; (with_reducible repeat (first | refine blk_drewN ?_ _ | refine blk_drew ?_ | refine blk_alloc ?_ _)); exact BK116.out⟩, ⟨by (with_reducible repeat (first | refine blk_drewN ?_ _ | refine blk_drew ?_ | refine blk_alloc ?_ _)); refine blk_put12 (.int .i64 0) (.int .i64 0) (.int .i64 0) (.int .i64 0) (.int .i64 0) (.int .i64 0) (.int .i64 0) (.int .i64 0) (.int .i64 0) (.int .i64 0) (.int .i64 0) (.int .i64 0) ?_; (with_reducible repeat (first | refine blk_drewN ?_ _ | refine blk_drew ?_ | refine blk_alloc ?_ _)); exact BK117.out⟩, ⟨by repeat (first | (with_reducible first | exact HB.out | apply below_alloc | apply pw_below_drewN | apply below_drew1 | refine below_set ?_ GE116.out | refine below_set ?_ GE117.out) | exact HB.out)⟩⟩
   ·rw [if_neg c14] at H
    have c14b0 : decide (1 ≤ a0_0) = false := decide_eq_false c14
    clear c14
    (first | rw [c14b0] | (simp only [i64_w, i32_w]; rw [c14b0]) | skip)
    have H' := Aside0.mk H
    clear H
    have hnb35 := NB116_117.out
    have hnc35 := NB117_116.out
    have q_ := cells12 BK116.out; have hcz36_0 := q_.c0; have hcz36_1 := q_.c1; have hcz36_2 := q_.c2; have hcz36_3 := q_.c3; have hcz36_4 := q_.c4; have hcz36_5 := q_.c5; have hcz36_6 := q_.c6; have hcz36_7 := q_.c7; have hcz36_8 := q_.c8; have hcz36_9 := q_.c9; have hcz36_10 := q_.c10; have hcz36_11 := q_.c11; have hfz36_0 := q_.f0; have hfz36_1 := q_.f1; have hfz36_2 := q_.f2; have hfz36_3 := q_.f3; have hfz36_4 := q_.f4; have hfz36_5 := q_.f5; have hfz36_6 := q_.f6; have hfz36_7 := q_.f7; have hfz36_8 := q_.f8; have hfz36_9 := q_.f9; have hfz36_10 := q_.f10; have hfz36_11 := q_.f11; clear q_
    go_wp2
    go_meet
    case rel => exact ⟨_, (false), (by first | rfl | (simp; done) | (simp [*]; done)), H', ⟨by first | omega | exact Nat.le_refl _⟩, ⟨by (with_reducible repeat (first | refine blk_drewN ?_ _ | refine blk_drew ?_ | refine blk_alloc ?_ _)); refine blk_far12 ?_ NB116_117.out; (with_reducible repeat (first | refine blk_drewN ?_ _ | refine blk_drew ?_ | refine blk_alloc ?_ _)); exact BK116.out⟩, ⟨by (with_reducible repeat (first | refine blk_drewN ?_ _ | refine blk_drew ?_ | refine blk_alloc ?_ _)); refine blk_put12 (.int .i64 0) (.int .i64 0) (.int .i64 0) (.int .i64 0) (.int .i64 0) (.int .i64 0) (.int .i64 0) (.int .i64 0) (.int .i64 0) (.int .i64 0) (.int .i64 0) (.int .i64 0) ?_; (with_reducible repeat (first | refine blk_drewN ?_ _ | refine blk_drew ?_ | refine blk_alloc ?_ _)); exact BK117.out⟩, ⟨by repeat (first | (with_reducible first | exact HB.out | apply below_alloc | apply pw_below_drewN | apply below_drew1 | refine below_set ?_ GE116.out | refine below_set ?_ GE117.out) | exact HB.out)⟩⟩
  case rest =>
   clear HC8
   try clear c1
   try clear c2
   try clear c2b0
   try clear c2b1
   try clear p2
   try clear c3
   try clear c5
   try clear c11
   try clear c12
   try clear c14
   try clear c14b0
   try clear c15
   try clear c15b0
   try clear c16
   try clear c16b0
   try clear c17
   try clear c17b0
   try clear c18
   try clear c18b0
   try clear c19
   try clear c19b0
   try clear c20
   try clear c20b0
   try clear c21
   try clear c23
   try clear c25
   try clear c27
   try clear c29
   try clear c31
   try clear c33
   try clear c35
   try clear hcz12_0 hcz12_1 hcz12_10 hcz12_11 hcz12_2 hcz12_3 hcz12_4 hcz12_5 hcz12_6 hcz12_7 hcz12_8 hcz12_9
   try clear hcz13_0 hcz13_1 hcz13_10 hcz13_11 hcz13_2 hcz13_3 hcz13_4 hcz13_5 hcz13_6 hcz13_7 hcz13_8 hcz13_9
   try clear hcz22_0 hcz22_1 hcz22_10 hcz22_11 hcz22_2 hcz22_3 hcz22_4 hcz22_5 hcz22_6 hcz22_7 hcz22_8 hcz22_9
   try clear hcz24_0 hcz24_1 hcz24_10 hcz24_11 hcz24_2 hcz24_3 hcz24_4 hcz24_5 hcz24_6 hcz24_7 hcz24_8 hcz24_9
   try clear hcz26_0 hcz26_1 hcz26_10 hcz26_11 hcz26_2 hcz26_3 hcz26_4 hcz26_5 hcz26_6 hcz26_7 hcz26_8 hcz26_9
   try clear hcz28_0 hcz28_1 hcz28_10 hcz28_11 hcz28_2 hcz28_3 hcz28_4 hcz28_5 hcz28_6 hcz28_7 hcz28_8 hcz28_9
   try clear hcz30_0 hcz30_1 hcz30_10 hcz30_11 hcz30_2 hcz30_3 hcz30_4 hcz30_5 hcz30_6 hcz30_7 hcz30_8 hcz30_9
   try clear hcz32_0 hcz32_1 hcz32_10 hcz32_11 hcz32_2 hcz32_3 hcz32_4 hcz32_5 hcz32_6 hcz32_7 hcz32_8 hcz32_9
   try clear hcz34_0 hcz34_1 hcz34_10 hcz34_11 hcz34_2 hcz34_3 hcz34_4 hcz34_5 hcz34_6 hcz34_7 hcz34_8 hcz34_9
   try clear hcz36_0 hcz36_1 hcz36_10 hcz36_11 hcz36_2 hcz36_3 hcz36_4 hcz36_5 hcz36_6 hcz36_7 hcz36_8 hcz36_9
   try clear hcz6_0 hcz6_1 hcz6_10 hcz6_11 hcz6_2 hcz6_3 hcz6_4 hcz6_5 hcz6_6 hcz6_7 hcz6_8 hcz6_9
   try clear hcz7_0 hcz7_1 hcz7_10 hcz7_11 hcz7_2 hcz7_3 hcz7_4 hcz7_5 hcz7_6 hcz7_7 hcz7_8 hcz7_9
   try clear hfz12_0 hfz12_1 hfz12_10 hfz12_11 hfz12_2 hfz12_3 hfz12_4 hfz12_5 hfz12_6 hfz12_7 hfz12_8 hfz12_9
   try clear hfz13_0 hfz13_1 hfz13_10 hfz13_11 hfz13_2 hfz13_3 hfz13_4 hfz13_5 hfz13_6 hfz13_7 hfz13_8 hfz13_9
   try clear hfz22_0 hfz22_1 hfz22_10 hfz22_11 hfz22_2 hfz22_3 hfz22_4 hfz22_5 hfz22_6 hfz22_7 hfz22_8 hfz22_9
   try clear hfz24_0 hfz24_1 hfz24_10 hfz24_11 hfz24_2 hfz24_3 hfz24_4 hfz24_5 hfz24_6 hfz24_7 hfz24_8 hfz24_9
   try clear hfz26_0 hfz26_1 hfz26_10 hfz26_11 hfz26_2 hfz26_3 hfz26_4 hfz26_5 hfz26_6 hfz26_7 hfz26_8 hfz26_9
   try clear hfz28_0 hfz28_1 hfz28_10 hfz28_11 hfz28_2 hfz28_3 hfz28_4 hfz28_5 hfz28_6 hfz28_7 hfz28_8 hfz28_9
   try clear hfz30_0 hfz30_1 hfz30_10 hfz30_11 hfz30_2 hfz30_3 hfz30_4 hfz30_5 hfz30_6 hfz30_7 hfz30_8 hfz30_9
   try clear hfz32_0 hfz32_1 hfz32_10 hfz32_11 hfz32_2 hfz32_3 hfz32_4 hfz32_5 hfz32_6 hfz32_7 hfz32_8 hfz32_9
   try clear hfz34_0 hfz34_1 hfz34_10 hfz34_11 hfz34_2 hfz34_3 hfz34_4 hfz34_5 hfz34_6 hfz34_7 hfz34_8 hfz34_9
   try clear hfz36_0 hfz36_1 hfz36_10 hfz36_11 hfz36_2 hfz36_3 hfz36_4 hfz36_5 hfz36_6 hfz36_7 hfz36_8 hfz36_9
   try clear hfz6_0 hfz6_1 hfz6_10 hfz6_11 hfz6_2 hfz6_3 hfz6_4 hfz6_5 hfz6_6 hfz6_7 hfz6_8 hfz6_9
   try clear hfz7_0 hfz7_1 hfz7_10 hfz7_11 hfz7_2 hfz7_3 hfz7_4 hfz7_5 hfz7_6 hfz7_7 hfz7_8 hfz7_9
   obtain ⟨kq, x4_7, rfl, HA, HJ7, BK116, BK117, HB⟩ := hcut
   cases kq with
   | zero => exact absurd HA.out (by simp [leveeref07_Right.j0])
   | succ kj7 =>
    have H := HA.out
    clear HA
    simp only [leveeref07_Right.j0] at H
    have HC37 := Aside0.mk H
    clear H
    go_upto_region 5 with (fail)
    go_cut [4] (fun v4 wc => ∃ (kq : Nat) (x4_36 : Bool), v4 = .bool x4_36 ∧ Aside0 (leveeref07_Right.j1 kq x4_36 a0_0 a0_1 a0_2 a0_3 a0_4 a0_5 a0_6 a0_7 a0_8 a0_9 a0_10 a0_11 = some r) ∧ Aside0 (kq ≤ kj7) ∧ Aside0 (wc.heap[gb116]? = some (.cells #[.int .i64 a0_0, .int .i64 a0_1, .int .i64 a0_2, .int .i64 a0_3, .int .i64 a0_4, .int .i64 a0_5, .int .i64 a0_6, .int .i64 a0_7, .int .i64 a0_8, .int .i64 a0_9, .int .i64 a0_10, .int .i64 a0_11] 24 (0, 0))) ∧ Aside0 (wc.heap[gb117]? = some (.cells #[.int .i64 0, .int .i64 0, .int .i64 0, .int .i64 0, .int .i64 0, .int .i64 0, .int .i64 0, .int .i64 0, .int .i64 0, .int .i64 0, .int .i64 0, .int .i64 0] 24 (0, 0))) ∧ Aside0 (Below w.heap.size w wc))
    case first =>
     have H := HC37.out
     clear HC37
     by_cases c38 : x4_7 = true
     ·subst c38
      have H1 : (if a0_0 = 2 then (if (Int.tmod a0_2 256) = 0 then (if a0_0 = 3 then (if a0_2 ≥ 1 then (leveeref07_Right.j1 kj7 (decide (a0_2 ≤ 255)) a0_0 a0_1 a0_2 a0_3 a0_4 a0_5 a0_6 a0_7 a0_8 a0_9 a0_10 a0_11) else (leveeref07_Right.j1 kj7 false a0_0 a0_1 a0_2 a0_3 a0_4 a0_5 a0_6 a0_7 a0_8 a0_9 a0_10 a0_11)) else (leveeref07_Right.j1 kj7 true a0_0 a0_1 a0_2 a0_3 a0_4 a0_5 a0_6 a0_7 a0_8 a0_9 a0_10 a0_11)) else (leveeref07_Right.j1 kj7 false a0_0 a0_1 a0_2 a0_3 a0_4 a0_5 a0_6 a0_7 a0_8 a0_9 a0_10 a0_11)) else (if a0_0 = 3 then (if a0_2 ≥ 1 then (leveeref07_Right.j1 kj7 (decide (a0_2 ≤ 255)) a0_0 a0_1 a0_2 a0_3 a0_4 a0_5 a0_6 a0_7 a0_8 a0_9 a0_10 a0_11) else (leveeref07_Right.j1 kj7 false a0_0 a0_1 a0_2 a0_3 a0_4 a0_5 a0_6 a0_7 a0_8 a0_9 a0_10 a0_11)) else (leveeref07_Right.j1 kj7 true a0_0 a0_1 a0_2 a0_3 a0_4 a0_5 a0_6 a0_7 a0_8 a0_9 a0_10 a0_11))) = some r := by rw [if_pos rfl] at H; exact H
      clear H
      have H := H1
      clear H1
      by_cases c39 : a0_0 = 2
      ·rw [if_pos c39] at H
       have c39b0 : (a0_0 == 2) = true := beq_iff_eq.mpr c39
       have c39b1 : (a0_0 != 2) = false := bne_eq_false_iff_eq.mpr c39
       clear c39
       (first | rw [c39b0] | (simp only [i64_w, i32_w]; rw [c39b0]) | skip)
       by_cases c40 : (Int.tmod a0_2 256) = 0
       ·rw [if_pos c40] at H
        have c40b0 : ((Int.tmod a0_2 256) == 0) = true := beq_iff_eq.mpr c40
        have c40b1 : ((Int.tmod a0_2 256) != 0) = false := bne_eq_false_iff_eq.mpr c40
        clear c40
        by_cases c41 : a0_0 = 3
        ·rw [if_pos c41] at H
         have c41b0 : (a0_0 == 3) = true := beq_iff_eq.mpr c41
         have c41b1 : (a0_0 != 3) = false := bne_eq_false_iff_eq.mpr c41
         clear c41
         by_cases c42 : a0_2 ≥ 1
         ·rw [if_pos c42] at H
          have c42b0 : decide (1 ≤ a0_2) = true := decide_eq_true c42
          clear c42
          have H' := Aside0.mk H
          clear H
          have hnb43 := NB116_117.out
          have hnc43 := NB117_116.out
          have q_ := cells12 BK116.out; have hcz44_0 := q_.c0; have hcz44_1 := q_.c1; have hcz44_2 := q_.c2; have hcz44_3 := q_.c3; have hcz44_4 := q_.c4; have hcz44_5 := q_.c5; have hcz44_6 := q_.c6; have hcz44_7 := q_.c7; have hcz44_8 := q_.c8; have hcz44_9 := q_.c9; have hcz44_10 := q_.c10; have hcz44_11 := q_.c11; have hfz44_0 := q_.f0; have hfz44_1 := q_.f1; have hfz44_2 := q_.f2; have hfz44_3 := q_.f3; have hfz44_4 := q_.f4; have hfz44_5 := q_.f5; have hfz44_6 := q_.f6; have hfz44_7 := q_.f7; have hfz44_8 := q_.f8; have hfz44_9 := q_.f9; have hfz44_10 := q_.f10; have hfz44_11 := q_.f11; clear q_
          go_wp2
          go_meet
          case rel => exact ⟨_, (decide (a0_2 ≤ 255)), (by first | rfl | (simp; done) | (simp [*]; done)), H', ⟨by have := HJ7.out; first | omega | exact Nat.le_refl _⟩, ⟨by (with_reducible repeat (first | refine blk_drewN ?_ _ | refine blk_drew ?_ | refine blk_alloc ?_ _)); exact BK116.out⟩, ⟨by (with_reducible repeat (first | refine blk_drewN ?_ _ | refine blk_drew ?_ | refine blk_alloc ?_ _)); exact BK117.out⟩, ⟨by repeat (first | (with_reducible first | exact HB.out | apply below_alloc | apply pw_below_drewN | apply below_drew1 | refine below_set ?_ GE116.out | refine below_set ?_ GE117.out) | exact HB.out)⟩⟩
         ·rw [if_neg c42] at H
          have c42b0 : decide (1 ≤ a0_2) = false := decide_eq_false c42
          clear c42
          have H' := Aside0.mk H
          clear H
          have hnb45 := NB116_117.out
          have hnc45 := NB117_116.out
          have q_ := cells12 BK116.out; have hcz46_0 := q_.c0; have hcz46_1 := q_.c1; have hcz46_2 := q_.c2; have hcz46_3 := q_.c3; have hcz46_4 := q_.c4; have hcz46_5 := q_.c5; have hcz46_6 := q_.c6; have hcz46_7 := q_.c7; have hcz46_8 := q_.c8; have hcz46_9 := q_.c9; have hcz46_10 := q_.c10; have hcz46_11 := q_.c11; have hfz46_0 := q_.f0; have hfz46_1 := q_.f1; have hfz46_2 := q_.f2; have hfz46_3 := q_.f3; have hfz46_4 := q_.f4; have hfz46_5 := q_.f5; have hfz46_6 := q_.f6; have hfz46_7 := q_.f7; have hfz46_8 := q_.f8; have hfz46_9 := q_.f9; have hfz46_10 := q_.f10; have hfz46_11 := q_.f11; clear q_
          go_wp2
          go_meet
          case rel => exact ⟨_, (false), (by first | rfl | (simp; done) | (simp [*]; done)), H', ⟨by have := HJ7.out; first | omega | exact Nat.le_refl _⟩, ⟨by (with_reducible repeat (first | refine blk_drewN ?_ _ | refine blk_drew ?_ | refine blk_alloc ?_ _)); exact BK116.out⟩, ⟨by (with_reducible repeat (first | refine blk_drewN ?_ _ | refine blk_drew ?_ | refine blk_alloc ?_ _)); exact BK117.out⟩, ⟨by repeat (first | (with_reducible first | exact HB.out | apply below_alloc | apply pw_below_drewN | apply below_drew1 | refine below_set ?_ GE116.out | refine below_set ?_ GE117.out) | exact HB.out)⟩⟩
        ·rw [if_neg c41] at H
         have c41b0 : (a0_0 == 3) = false := beq_eq_false_iff_ne.mpr c41
         have c41b1 : (a0_0 != 3) = true := bne_iff_ne.mpr c41
         have H' := Aside0.mk H
         clear H
         have hnb47 := NB116_117.out
         have hnc47 := NB117_116.out
         have q_ := cells12 BK116.out; have hcz48_0 := q_.c0; have hcz48_1 := q_.c1; have hcz48_2 := q_.c2; have hcz48_3 := q_.c3; have hcz48_4 := q_.c4; have hcz48_5 := q_.c5; have hcz48_6 := q_.c6; have hcz48_7 := q_.c7; have hcz48_8 := q_.c8; have hcz48_9 := q_.c9; have hcz48_10 := q_.c10; have hcz48_11 := q_.c11; have hfz48_0 := q_.f0; have hfz48_1 := q_.f1; have hfz48_2 := q_.f2; have hfz48_3 := q_.f3; have hfz48_4 := q_.f4; have hfz48_5 := q_.f5; have hfz48_6 := q_.f6; have hfz48_7 := q_.f7; have hfz48_8 := q_.f8; have hfz48_9 := q_.f9; have hfz48_10 := q_.f10; have hfz48_11 := q_.f11; clear q_
         go_wp2
         go_meet
         case rel => exact ⟨_, (true), (by first | rfl | (simp; done) | (simp [*]; done)), H', ⟨by have := HJ7.out; first | omega | exact Nat.le_refl _⟩, ⟨by (with_reducible repeat (first | refine blk_drewN ?_ _ | refine blk_drew ?_ | refine blk_alloc ?_ _)); exact BK116.out⟩, ⟨by (with_reducible repeat (first | refine blk_drewN ?_ _ | refine blk_drew ?_ | refine blk_alloc ?_ _)); exact BK117.out⟩, ⟨by repeat (first | (with_reducible first | exact HB.out | apply below_alloc | apply pw_below_drewN | apply below_drew1 | refine below_set ?_ GE116.out | refine below_set ?_ GE117.out) | exact HB.out)⟩⟩
       ·rw [if_neg c40] at H
        have c40b0 : ((Int.tmod a0_2 256) == 0) = false := beq_eq_false_iff_ne.mpr c40
        have c40b1 : ((Int.tmod a0_2 256) != 0) = true := bne_iff_ne.mpr c40
        have H' := Aside0.mk H
        clear H
        have hnb49 := NB116_117.out
        have hnc49 := NB117_116.out
        have q_ := cells12 BK116.out; have hcz50_0 := q_.c0; have hcz50_1 := q_.c1; have hcz50_2 := q_.c2; have hcz50_3 := q_.c3; have hcz50_4 := q_.c4; have hcz50_5 := q_.c5; have hcz50_6 := q_.c6; have hcz50_7 := q_.c7; have hcz50_8 := q_.c8; have hcz50_9 := q_.c9; have hcz50_10 := q_.c10; have hcz50_11 := q_.c11; have hfz50_0 := q_.f0; have hfz50_1 := q_.f1; have hfz50_2 := q_.f2; have hfz50_3 := q_.f3; have hfz50_4 := q_.f4; have hfz50_5 := q_.f5; have hfz50_6 := q_.f6; have hfz50_7 := q_.f7; have hfz50_8 := q_.f8; have hfz50_9 := q_.f9; have hfz50_10 := q_.f10; have hfz50_11 := q_.f11; clear q_
        go_wp2
        go_meet
        case rel => exact ⟨_, (false), (by first | rfl | (simp; done) | (simp [*]; done)), H', ⟨by have := HJ7.out; first | omega | exact Nat.le_refl _⟩, ⟨by (with_reducible repeat (first | refine blk_drewN ?_ _ | refine blk_drew ?_ | refine blk_alloc ?_ _)); exact BK116.out⟩, ⟨by (with_reducible repeat (first | refine blk_drewN ?_ _ | refine blk_drew ?_ | refine blk_alloc ?_ _)); exact BK117.out⟩, ⟨by repeat (first | (with_reducible first | exact HB.out | apply below_alloc | apply pw_below_drewN | apply below_drew1 | refine below_set ?_ GE116.out | refine below_set ?_ GE117.out) | exact HB.out)⟩⟩
      ·rw [if_neg c39] at H
       have c39b0 : (a0_0 == 2) = false := beq_eq_false_iff_ne.mpr c39
       have c39b1 : (a0_0 != 2) = true := bne_iff_ne.mpr c39
       (first | rw [c39b0] | (simp only [i64_w, i32_w]; rw [c39b0]) | skip)
       by_cases c51 : a0_0 = 3
       ·rw [if_pos c51] at H
        have c51b0 : (a0_0 == 3) = true := beq_iff_eq.mpr c51
        have c51b1 : (a0_0 != 3) = false := bne_eq_false_iff_eq.mpr c51
        clear c51
        by_cases c52 : a0_2 ≥ 1
        ·rw [if_pos c52] at H
         have c52b0 : decide (1 ≤ a0_2) = true := decide_eq_true c52
         clear c52
         have H' := Aside0.mk H
         clear H
         have hnb53 := NB116_117.out
         have hnc53 := NB117_116.out
         have q_ := cells12 BK116.out; have hcz54_0 := q_.c0; have hcz54_1 := q_.c1; have hcz54_2 := q_.c2; have hcz54_3 := q_.c3; have hcz54_4 := q_.c4; have hcz54_5 := q_.c5; have hcz54_6 := q_.c6; have hcz54_7 := q_.c7; have hcz54_8 := q_.c8; have hcz54_9 := q_.c9; have hcz54_10 := q_.c10; have hcz54_11 := q_.c11; have hfz54_0 := q_.f0; have hfz54_1 := q_.f1; have hfz54_2 := q_.f2; have hfz54_3 := q_.f3; have hfz54_4 := q_.f4; have hfz54_5 := q_.f5; have hfz54_6 := q_.f6; have hfz54_7 := q_.f7; have hfz54_8 := q_.f8; have hfz54_9 := q_.f9; have hfz54_10 := q_.f10; have hfz54_11 := q_.f11; clear q_
         go_wp2
         go_meet
         case rel => exact ⟨_, (decide (a0_2 ≤ 255)), (by first | rfl | (simp; done) | (simp [*]; done)), H', ⟨by have := HJ7.out; first | omega | exact Nat.le_refl _⟩, ⟨by (with_reducible repeat (first | refine blk_drewN ?_ _ | refine blk_drew ?_ | refine blk_alloc ?_ _)); exact BK116.out⟩, ⟨by (with_reducible repeat (first | refine blk_drewN ?_ _ | refine blk_drew ?_ | refine blk_alloc ?_ _)); exact BK117.out⟩, ⟨by repeat (first | (with_reducible first | exact HB.out | apply below_alloc | apply pw_below_drewN | apply below_drew1 | refine below_set ?_ GE116.out | refine below_set ?_ GE117.out) | exact HB.out)⟩⟩
        ·rw [if_neg c52] at H
         have c52b0 : decide (1 ≤ a0_2) = false := decide_eq_false c52
         clear c52
         have H' := Aside0.mk H
         clear H
         have hnb55 := NB116_117.out
         have hnc55 := NB117_116.out
         have q_ := cells12 BK116.out; have hcz56_0 := q_.c0; have hcz56_1 := q_.c1; have hcz56_2 := q_.c2; have hcz56_3 := q_.c3; have hcz56_4 := q_.c4; have hcz56_5 := q_.c5; have hcz56_6 := q_.c6; have hcz56_7 := q_.c7; have hcz56_8 := q_.c8; have hcz56_9 := q_.c9; have hcz56_10 := q_.c10; have hcz56_11 := q_.c11; have hfz56_0 := q_.f0; have hfz56_1 := q_.f1; have hfz56_2 := q_.f2; have hfz56_3 := q_.f3; have hfz56_4 := q_.f4; have hfz56_5 := q_.f5; have hfz56_6 := q_.f6; have hfz56_7 := q_.f7; have hfz56_8 := q_.f8; have hfz56_9 := q_.f9; have hfz56_10 := q_.f10; have hfz56_11 := q_.f11; clear q_
         go_wp2
         go_meet
         case rel => exact ⟨_, (false), (by first | rfl | (simp; done) | (simp [*]; done)), H', ⟨by have := HJ7.out; first | omega | exact Nat.le_refl _⟩, ⟨by (with_reducible repeat (first | refine blk_drewN ?_ _ | refine blk_drew ?_ | refine blk_alloc ?_ _)); exact BK116.out⟩, ⟨by (with_reducible repeat (first | refine blk_drewN ?_ _ | refine blk_drew ?_ | refine blk_alloc ?_ _)); exact BK117.out⟩, ⟨by repeat (first | (with_reducible first | exact HB.out | apply below_alloc | apply pw_below_drewN | apply below_drew1 | refine below_set ?_ GE116.out | refine below_set ?_ GE117.out) | exact HB.out)⟩⟩
       ·rw [if_neg c51] at H
        have c51b0 : (a0_0 == 3) = false := beq_eq_false_iff_ne.mpr c51
        have c51b1 : (a0_0 != 3) = true := bne_iff_ne.mpr c51
        have H' := Aside0.mk H
        clear H
        have hnb57 := NB116_117.out
        have hnc57 := NB117_116.out
        have q_ := cells12 BK116.out; have hcz58_0 := q_.c0; have hcz58_1 := q_.c1; have hcz58_2 := q_.c2; have hcz58_3 := q_.c3; have hcz58_4 := q_.c4; have hcz58_5 := q_.c5; have hcz58_6 := q_.c6; have hcz58_7 := q_.c7; have hcz58_8 := q_.c8; have hcz58_9 := q_.c9; have hcz58_10 := q_.c10; have hcz58_11 := q_.c11; have hfz58_0 := q_.f0; have hfz58_1 := q_.f1; have hfz58_2 := q_.f2; have hfz58_3 := q_.f3; have hfz58_4 := q_.f4; have hfz58_5 := q_.f5; have hfz58_6 := q_.f6; have hfz58_7 := q_.f7; have hfz58_8 := q_.f8; have hfz58_9 := q_.f9; have hfz58_10 := q_.f10; have hfz58_11 := q_.f11; clear q_
        go_wp2
        go_meet
        case rel => exact ⟨_, (true), (by first | rfl | (simp; done) | (simp [*]; done)), H', ⟨by have := HJ7.out; first | omega | exact Nat.le_refl _⟩, ⟨by (with_reducible repeat (first | refine blk_drewN ?_ _ | refine blk_drew ?_ | refine blk_alloc ?_ _)); exact BK116.out⟩, ⟨by (with_reducible repeat (first | refine blk_drewN ?_ _ | refine blk_drew ?_ | refine blk_alloc ?_ _)); exact BK117.out⟩, ⟨by repeat (first | (with_reducible first | exact HB.out | apply below_alloc | apply pw_below_drewN | apply below_drew1 | refine below_set ?_ GE116.out | refine below_set ?_ GE117.out) | exact HB.out)⟩⟩
     ·replace c38 := Bool.eq_false_iff.mpr c38
      subst c38
      have H1 : (leveeref07_Right.j1 kj7 false a0_0 a0_1 a0_2 a0_3 a0_4 a0_5 a0_6 a0_7 a0_8 a0_9 a0_10 a0_11) = some r := by rw [if_neg (show ¬ (false = true) by decide)] at H; exact H
      clear H
      have H := H1
      clear H1
      have H' := Aside0.mk H
      clear H
      go_wp2
      go_meet
      case rel => exact ⟨_, (false), (by first | rfl | (simp; done) | (simp [*]; done)), H', ⟨by have := HJ7.out; first | omega | exact Nat.le_refl _⟩, ⟨by (with_reducible repeat (first | refine blk_drewN ?_ _ | refine blk_drew ?_ | refine blk_alloc ?_ _)); exact BK116.out⟩, ⟨by (with_reducible repeat (first | refine blk_drewN ?_ _ | refine blk_drew ?_ | refine blk_alloc ?_ _)); exact BK117.out⟩, ⟨by repeat (first | (with_reducible first | exact HB.out | apply below_alloc | apply pw_below_drewN | apply below_drew1 | refine below_set ?_ GE116.out | refine below_set ?_ GE117.out) | exact HB.out)⟩⟩
    case rest =>
     clear HC37
     try clear c1
     try clear c2
     try clear p2
     try clear c3
     try clear c4
     try clear c5
     try clear c18
     try clear c18b0
     try clear c19
     try clear c19b0
     try clear c20
     try clear c20b0
     try clear c21
     try clear c23
     try clear c25
     try clear c27
     try clear c29
     try clear c31
     try clear c33
     try clear c35
     try clear c38
     try clear c39
     try clear c39b0
     try clear c39b1
     try clear c40
     try clear c40b0
     try clear c40b1
     try clear c41
     try clear c41b0
     try clear c41b1
     try clear c42
     try clear c42b0
     try clear c43
     try clear c45
     try clear c47
     try clear c49
     try clear c51
     try clear c51b0
     try clear c51b1
     try clear c52
     try clear c52b0
     try clear c53
     try clear c55
     try clear c57
     try clear hcz12_0 hcz12_1 hcz12_10 hcz12_11 hcz12_2 hcz12_3 hcz12_4 hcz12_5 hcz12_6 hcz12_7 hcz12_8 hcz12_9
     try clear hcz13_0 hcz13_1 hcz13_10 hcz13_11 hcz13_2 hcz13_3 hcz13_4 hcz13_5 hcz13_6 hcz13_7 hcz13_8 hcz13_9
     try clear hcz22_0 hcz22_1 hcz22_10 hcz22_11 hcz22_2 hcz22_3 hcz22_4 hcz22_5 hcz22_6 hcz22_7 hcz22_8 hcz22_9
     try clear hcz24_0 hcz24_1 hcz24_10 hcz24_11 hcz24_2 hcz24_3 hcz24_4 hcz24_5 hcz24_6 hcz24_7 hcz24_8 hcz24_9
     try clear hcz26_0 hcz26_1 hcz26_10 hcz26_11 hcz26_2 hcz26_3 hcz26_4 hcz26_5 hcz26_6 hcz26_7 hcz26_8 hcz26_9
     try clear hcz28_0 hcz28_1 hcz28_10 hcz28_11 hcz28_2 hcz28_3 hcz28_4 hcz28_5 hcz28_6 hcz28_7 hcz28_8 hcz28_9
     try clear hcz30_0 hcz30_1 hcz30_10 hcz30_11 hcz30_2 hcz30_3 hcz30_4 hcz30_5 hcz30_6 hcz30_7 hcz30_8 hcz30_9
     try clear hcz32_0 hcz32_1 hcz32_10 hcz32_11 hcz32_2 hcz32_3 hcz32_4 hcz32_5 hcz32_6 hcz32_7 hcz32_8 hcz32_9
     try clear hcz34_0 hcz34_1 hcz34_10 hcz34_11 hcz34_2 hcz34_3 hcz34_4 hcz34_5 hcz34_6 hcz34_7 hcz34_8 hcz34_9
     try clear hcz36_0 hcz36_1 hcz36_10 hcz36_11 hcz36_2 hcz36_3 hcz36_4 hcz36_5 hcz36_6 hcz36_7 hcz36_8 hcz36_9
     try clear hcz44_0 hcz44_1 hcz44_10 hcz44_11 hcz44_2 hcz44_3 hcz44_4 hcz44_5 hcz44_6 hcz44_7 hcz44_8 hcz44_9
     try clear hcz46_0 hcz46_1 hcz46_10 hcz46_11 hcz46_2 hcz46_3 hcz46_4 hcz46_5 hcz46_6 hcz46_7 hcz46_8 hcz46_9
     try clear hcz48_0 hcz48_1 hcz48_10 hcz48_11 hcz48_2 hcz48_3 hcz48_4 hcz48_5 hcz48_6 hcz48_7 hcz48_8 hcz48_9
     try clear hcz50_0 hcz50_1 hcz50_10 hcz50_11 hcz50_2 hcz50_3 hcz50_4 hcz50_5 hcz50_6 hcz50_7 hcz50_8 hcz50_9
     try clear hcz54_0 hcz54_1 hcz54_10 hcz54_11 hcz54_2 hcz54_3 hcz54_4 hcz54_5 hcz54_6 hcz54_7 hcz54_8 hcz54_9
     try clear hcz56_0 hcz56_1 hcz56_10 hcz56_11 hcz56_2 hcz56_3 hcz56_4 hcz56_5 hcz56_6 hcz56_7 hcz56_8 hcz56_9
     try clear hcz58_0 hcz58_1 hcz58_10 hcz58_11 hcz58_2 hcz58_3 hcz58_4 hcz58_5 hcz58_6 hcz58_7 hcz58_8 hcz58_9
     try clear hcz6_0 hcz6_1 hcz6_10 hcz6_11 hcz6_2 hcz6_3 hcz6_4 hcz6_5 hcz6_6 hcz6_7 hcz6_8 hcz6_9
     try clear hcz7_0 hcz7_1 hcz7_10 hcz7_11 hcz7_2 hcz7_3 hcz7_4 hcz7_5 hcz7_6 hcz7_7 hcz7_8 hcz7_9
     try clear hfz12_0 hfz12_1 hfz12_10 hfz12_11 hfz12_2 hfz12_3 hfz12_4 hfz12_5 hfz12_6 hfz12_7 hfz12_8 hfz12_9
     try clear hfz13_0 hfz13_1 hfz13_10 hfz13_11 hfz13_2 hfz13_3 hfz13_4 hfz13_5 hfz13_6 hfz13_7 hfz13_8 hfz13_9
     try clear hfz22_0 hfz22_1 hfz22_10 hfz22_11 hfz22_2 hfz22_3 hfz22_4 hfz22_5 hfz22_6 hfz22_7 hfz22_8 hfz22_9
     try clear hfz24_0 hfz24_1 hfz24_10 hfz24_11 hfz24_2 hfz24_3 hfz24_4 hfz24_5 hfz24_6 hfz24_7 hfz24_8 hfz24_9
     try clear hfz26_0 hfz26_1 hfz26_10 hfz26_11 hfz26_2 hfz26_3 hfz26_4 hfz26_5 hfz26_6 hfz26_7 hfz26_8 hfz26_9
     try clear hfz28_0 hfz28_1 hfz28_10 hfz28_11 hfz28_2 hfz28_3 hfz28_4 hfz28_5 hfz28_6 hfz28_7 hfz28_8 hfz28_9
     try clear hfz30_0 hfz30_1 hfz30_10 hfz30_11 hfz30_2 hfz30_3 hfz30_4 hfz30_5 hfz30_6 hfz30_7 hfz30_8 hfz30_9
     try clear hfz32_0 hfz32_1 hfz32_10 hfz32_11 hfz32_2 hfz32_3 hfz32_4 hfz32_5 hfz32_6 hfz32_7 hfz32_8 hfz32_9
     try clear hfz34_0 hfz34_1 hfz34_10 hfz34_11 hfz34_2 hfz34_3 hfz34_4 hfz34_5 hfz34_6 hfz34_7 hfz34_8 hfz34_9
     try clear hfz36_0 hfz36_1 hfz36_10 hfz36_11 hfz36_2 hfz36_3 hfz36_4 hfz36_5 hfz36_6 hfz36_7 hfz36_8 hfz36_9
     try clear hfz44_0 hfz44_1 hfz44_10 hfz44_11 hfz44_2 hfz44_3 hfz44_4 hfz44_5 hfz44_6 hfz44_7 hfz44_8 hfz44_9
     try clear hfz46_0 hfz46_1 hfz46_10 hfz46_11 hfz46_2 hfz46_3 hfz46_4 hfz46_5 hfz46_6 hfz46_7 hfz46_8 hfz46_9
     try clear hfz48_0 hfz48_1 hfz48_10 hfz48_11 hfz48_2 hfz48_3 hfz48_4 hfz48_5 hfz48_6 hfz48_7 hfz48_8 hfz48_9
     try clear hfz50_0 hfz50_1 hfz50_10 hfz50_11 hfz50_2 hfz50_3 hfz50_4 hfz50_5 hfz50_6 hfz50_7 hfz50_8 hfz50_9
     try clear hfz54_0 hfz54_1 hfz54_10 hfz54_11 hfz54_2 hfz54_3 hfz54_4 hfz54_5 hfz54_6 hfz54_7 hfz54_8 hfz54_9
     try clear hfz56_0 hfz56_1 hfz56_10 hfz56_11 hfz56_2 hfz56_3 hfz56_4 hfz56_5 hfz56_6 hfz56_7 hfz56_8 hfz56_9
     try clear hfz58_0 hfz58_1 hfz58_10 hfz58_11 hfz58_2 hfz58_3 hfz58_4 hfz58_5 hfz58_6 hfz58_7 hfz58_8 hfz58_9
     try clear hfz6_0 hfz6_1 hfz6_10 hfz6_11 hfz6_2 hfz6_3 hfz6_4 hfz6_5 hfz6_6 hfz6_7 hfz6_8 hfz6_9
     try clear hfz7_0 hfz7_1 hfz7_10 hfz7_11 hfz7_2 hfz7_3 hfz7_4 hfz7_5 hfz7_6 hfz7_7 hfz7_8 hfz7_9
     obtain ⟨kq, x4_36, rfl, HA, HJ36, BK116, BK117, HB⟩ := hcut
     cases kq with
     | zero => exact absurd HA.out (by simp [leveeref07_Right.j1])
     | succ kj36 =>
      have H := HA.out
      clear HA
      simp only [leveeref07_Right.j1] at H
      have H' := Aside0.mk H
      clear H
      go_wp2
      go_loopg [4, 5] kj36 (fun kq v4 v5 w' => ∃ (x4_3 : Bool) (x5_3 : Int), v4 = .bool x4_3 ∧ v5 = .int .i64 x5_3 ∧ Aside0 (leveeref07_Right.l0 kq x4_3 x5_3 a0_0 a0_1 a0_2 a0_3 a0_4 a0_5 a0_6 a0_7 a0_8 a0_9 a0_10 a0_11 = some r) ∧ Aside0 (kq ≤ kj36) ∧ Aside0 (w'.heap[gb116]? = some (.cells #[.int .i64 a0_0, .int .i64 a0_1, .int .i64 a0_2, .int .i64 a0_3, .int .i64 a0_4, .int .i64 a0_5, .int .i64 a0_6, .int .i64 a0_7, .int .i64 a0_8, .int .i64 a0_9, .int .i64 a0_10, .int .i64 a0_11] 24 (0, 0))) ∧ Aside0 (w'.heap[gb117]? = some (.cells #[.int .i64 0, .int .i64 0, .int .i64 0, .int .i64 0, .int .i64 0, .int .i64 0, .int .i64 0, .int .i64 0, .int .i64 0, .int .i64 0, .int .i64 0, .int .i64 0] 24 (0, 0))) ∧ Aside0 (Below w.heap.size w w'))
      case atStart => exact ⟨(x4_36), (0), (by first | rfl | (simp; done) | (simp [*]; done)), (by first | rfl | (simp; done) | (simp [*]; done)), H', ⟨Nat.le_refl _⟩, ⟨by (with_reducible repeat (first | refine blk_drewN ?_ _ | refine blk_drew ?_ | refine blk_alloc ?_ _)); exact BK116.out⟩, ⟨by (with_reducible repeat (first | refine blk_drewN ?_ _ | refine blk_drew ?_ | refine blk_alloc ?_ _)); exact BK117.out⟩, ⟨by repeat (first | (with_reducible first | exact HB.out | apply below_alloc | apply pw_below_drewN | apply below_drew1 | refine below_set ?_ GE116.out | refine below_set ?_ GE117.out) | exact HB.out)⟩⟩
      case round =>
       clear H'
       try clear c1
       try clear c2
       try clear p2
       try clear c3
       try clear c4
       try clear c5
       try clear c18
       try clear c18b0
       try clear c19
       try clear c19b0
       try clear c20
       try clear c20b0
       try clear c21
       try clear c23
       try clear c25
       try clear c27
       try clear c29
       try clear c31
       try clear c33
       try clear c35
       try clear c38
       try clear c39
       try clear c39b0
       try clear c39b1
       try clear c40
       try clear c40b0
       try clear c40b1
       try clear c41
       try clear c41b0
       try clear c41b1
       try clear c42
       try clear c42b0
       try clear c43
       try clear c45
       try clear c47
       try clear c49
       try clear c51
       try clear c51b0
       try clear c51b1
       try clear c52
       try clear c52b0
       try clear c53
       try clear c55
       try clear c57
       try clear hcz12_0 hcz12_1 hcz12_10 hcz12_11 hcz12_2 hcz12_3 hcz12_4 hcz12_5 hcz12_6 hcz12_7 hcz12_8 hcz12_9
       try clear hcz13_0 hcz13_1 hcz13_10 hcz13_11 hcz13_2 hcz13_3 hcz13_4 hcz13_5 hcz13_6 hcz13_7 hcz13_8 hcz13_9
       try clear hcz22_0 hcz22_1 hcz22_10 hcz22_11 hcz22_2 hcz22_3 hcz22_4 hcz22_5 hcz22_6 hcz22_7 hcz22_8 hcz22_9
       try clear hcz24_0 hcz24_1 hcz24_10 hcz24_11 hcz24_2 hcz24_3 hcz24_4 hcz24_5 hcz24_6 hcz24_7 hcz24_8 hcz24_9
       try clear hcz26_0 hcz26_1 hcz26_10 hcz26_11 hcz26_2 hcz26_3 hcz26_4 hcz26_5 hcz26_6 hcz26_7 hcz26_8 hcz26_9
       try clear hcz28_0 hcz28_1 hcz28_10 hcz28_11 hcz28_2 hcz28_3 hcz28_4 hcz28_5 hcz28_6 hcz28_7 hcz28_8 hcz28_9
       try clear hcz30_0 hcz30_1 hcz30_10 hcz30_11 hcz30_2 hcz30_3 hcz30_4 hcz30_5 hcz30_6 hcz30_7 hcz30_8 hcz30_9
       try clear hcz32_0 hcz32_1 hcz32_10 hcz32_11 hcz32_2 hcz32_3 hcz32_4 hcz32_5 hcz32_6 hcz32_7 hcz32_8 hcz32_9
       try clear hcz34_0 hcz34_1 hcz34_10 hcz34_11 hcz34_2 hcz34_3 hcz34_4 hcz34_5 hcz34_6 hcz34_7 hcz34_8 hcz34_9
       try clear hcz36_0 hcz36_1 hcz36_10 hcz36_11 hcz36_2 hcz36_3 hcz36_4 hcz36_5 hcz36_6 hcz36_7 hcz36_8 hcz36_9
       try clear hcz44_0 hcz44_1 hcz44_10 hcz44_11 hcz44_2 hcz44_3 hcz44_4 hcz44_5 hcz44_6 hcz44_7 hcz44_8 hcz44_9
       try clear hcz46_0 hcz46_1 hcz46_10 hcz46_11 hcz46_2 hcz46_3 hcz46_4 hcz46_5 hcz46_6 hcz46_7 hcz46_8 hcz46_9
       try clear hcz48_0 hcz48_1 hcz48_10 hcz48_11 hcz48_2 hcz48_3 hcz48_4 hcz48_5 hcz48_6 hcz48_7 hcz48_8 hcz48_9
       try clear hcz50_0 hcz50_1 hcz50_10 hcz50_11 hcz50_2 hcz50_3 hcz50_4 hcz50_5 hcz50_6 hcz50_7 hcz50_8 hcz50_9
       try clear hcz54_0 hcz54_1 hcz54_10 hcz54_11 hcz54_2 hcz54_3 hcz54_4 hcz54_5 hcz54_6 hcz54_7 hcz54_8 hcz54_9
       try clear hcz56_0 hcz56_1 hcz56_10 hcz56_11 hcz56_2 hcz56_3 hcz56_4 hcz56_5 hcz56_6 hcz56_7 hcz56_8 hcz56_9
       try clear hcz58_0 hcz58_1 hcz58_10 hcz58_11 hcz58_2 hcz58_3 hcz58_4 hcz58_5 hcz58_6 hcz58_7 hcz58_8 hcz58_9
       try clear hcz6_0 hcz6_1 hcz6_10 hcz6_11 hcz6_2 hcz6_3 hcz6_4 hcz6_5 hcz6_6 hcz6_7 hcz6_8 hcz6_9
       try clear hcz7_0 hcz7_1 hcz7_10 hcz7_11 hcz7_2 hcz7_3 hcz7_4 hcz7_5 hcz7_6 hcz7_7 hcz7_8 hcz7_9
       try clear hfz12_0 hfz12_1 hfz12_10 hfz12_11 hfz12_2 hfz12_3 hfz12_4 hfz12_5 hfz12_6 hfz12_7 hfz12_8 hfz12_9
       try clear hfz13_0 hfz13_1 hfz13_10 hfz13_11 hfz13_2 hfz13_3 hfz13_4 hfz13_5 hfz13_6 hfz13_7 hfz13_8 hfz13_9
       try clear hfz22_0 hfz22_1 hfz22_10 hfz22_11 hfz22_2 hfz22_3 hfz22_4 hfz22_5 hfz22_6 hfz22_7 hfz22_8 hfz22_9
       try clear hfz24_0 hfz24_1 hfz24_10 hfz24_11 hfz24_2 hfz24_3 hfz24_4 hfz24_5 hfz24_6 hfz24_7 hfz24_8 hfz24_9
       try clear hfz26_0 hfz26_1 hfz26_10 hfz26_11 hfz26_2 hfz26_3 hfz26_4 hfz26_5 hfz26_6 hfz26_7 hfz26_8 hfz26_9
       try clear hfz28_0 hfz28_1 hfz28_10 hfz28_11 hfz28_2 hfz28_3 hfz28_4 hfz28_5 hfz28_6 hfz28_7 hfz28_8 hfz28_9
       try clear hfz30_0 hfz30_1 hfz30_10 hfz30_11 hfz30_2 hfz30_3 hfz30_4 hfz30_5 hfz30_6 hfz30_7 hfz30_8 hfz30_9
       try clear hfz32_0 hfz32_1 hfz32_10 hfz32_11 hfz32_2 hfz32_3 hfz32_4 hfz32_5 hfz32_6 hfz32_7 hfz32_8 hfz32_9
       try clear hfz34_0 hfz34_1 hfz34_10 hfz34_11 hfz34_2 hfz34_3 hfz34_4 hfz34_5 hfz34_6 hfz34_7 hfz34_8 hfz34_9
       try clear hfz36_0 hfz36_1 hfz36_10 hfz36_11 hfz36_2 hfz36_3 hfz36_4 hfz36_5 hfz36_6 hfz36_7 hfz36_8 hfz36_9
       try clear hfz44_0 hfz44_1 hfz44_10 hfz44_11 hfz44_2 hfz44_3 hfz44_4 hfz44_5 hfz44_6 hfz44_7 hfz44_8 hfz44_9
       try clear hfz46_0 hfz46_1 hfz46_10 hfz46_11 hfz46_2 hfz46_3 hfz46_4 hfz46_5 hfz46_6 hfz46_7 hfz46_8 hfz46_9
       try clear hfz48_0 hfz48_1 hfz48_10 hfz48_11 hfz48_2 hfz48_3 hfz48_4 hfz48_5 hfz48_6 hfz48_7 hfz48_8 hfz48_9
       try clear hfz50_0 hfz50_1 hfz50_10 hfz50_11 hfz50_2 hfz50_3 hfz50_4 hfz50_5 hfz50_6 hfz50_7 hfz50_8 hfz50_9
       try clear hfz54_0 hfz54_1 hfz54_10 hfz54_11 hfz54_2 hfz54_3 hfz54_4 hfz54_5 hfz54_6 hfz54_7 hfz54_8 hfz54_9
       try clear hfz56_0 hfz56_1 hfz56_10 hfz56_11 hfz56_2 hfz56_3 hfz56_4 hfz56_5 hfz56_6 hfz56_7 hfz56_8 hfz56_9
       try clear hfz58_0 hfz58_1 hfz58_10 hfz58_11 hfz58_2 hfz58_3 hfz58_4 hfz58_5 hfz58_6 hfz58_7 hfz58_8 hfz58_9
       try clear hfz6_0 hfz6_1 hfz6_10 hfz6_11 hfz6_2 hfz6_3 hfz6_4 hfz6_5 hfz6_6 hfz6_7 hfz6_8 hfz6_9
       try clear hfz7_0 hfz7_1 hfz7_10 hfz7_11 hfz7_2 hfz7_3 hfz7_4 hfz7_5 hfz7_6 hfz7_7 hfz7_8 hfz7_9
       try clear p2
       obtain ⟨x4_3, x5_3, rfl, rfl, HA, HK3, BK116, BK117, HB⟩ := hrel
       cases gk with
       | zero => exact absurd HA.out (by simp [leveeref07_Right.l0])
       | succ k3 =>
        have H := HA.out
        clear HA
        simp only [leveeref07_Right.l0] at H
        by_cases c59 : x5_3 < 6
        ·rw [if_pos c59] at H
         have c59b0 : decide (x5_3 < 6) = true := decide_eq_true c59
         clear c59
         by_cases c60 : x4_3 = true
         ·subst c60
          have H1 : (if x5_3 = (0 : Int) then (if a0_4 ≥ 0 then (leveeref07_Right.l0 k3 (decide (a0_4 < 4096)) (wrap64 (x5_3 + 1)) a0_0 a0_1 a0_2 a0_3 a0_4 a0_5 a0_6 a0_7 a0_8 a0_9 a0_10 a0_11) else (leveeref07_Right.l0 k3 false (wrap64 (x5_3 + 1)) a0_0 a0_1 a0_2 a0_3 a0_4 a0_5 a0_6 a0_7 a0_8 a0_9 a0_10 a0_11)) else (if x5_3 = (1 : Int) then (if a0_5 ≥ 0 then (leveeref07_Right.l0 k3 (decide (a0_5 < 4096)) (wrap64 (x5_3 + 1)) a0_0 a0_1 a0_2 a0_3 a0_4 a0_5 a0_6 a0_7 a0_8 a0_9 a0_10 a0_11) else (leveeref07_Right.l0 k3 false (wrap64 (x5_3 + 1)) a0_0 a0_1 a0_2 a0_3 a0_4 a0_5 a0_6 a0_7 a0_8 a0_9 a0_10 a0_11)) else (if x5_3 = (2 : Int) then (if a0_6 ≥ 0 then (leveeref07_Right.l0 k3 (decide (a0_6 < 4096)) (wrap64 (x5_3 + 1)) a0_0 a0_1 a0_2 a0_3 a0_4 a0_5 a0_6 a0_7 a0_8 a0_9 a0_10 a0_11) else (leveeref07_Right.l0 k3 false (wrap64 (x5_3 + 1)) a0_0 a0_1 a0_2 a0_3 a0_4 a0_5 a0_6 a0_7 a0_8 a0_9 a0_10 a0_11)) else (if x5_3 = (3 : Int) then (if a0_7 ≥ 0 then (leveeref07_Right.l0 k3 (decide (a0_7 < 4096)) (wrap64 (x5_3 + 1)) a0_0 a0_1 a0_2 a0_3 a0_4 a0_5 a0_6 a0_7 a0_8 a0_9 a0_10 a0_11) else (leveeref07_Right.l0 k3 false (wrap64 (x5_3 + 1)) a0_0 a0_1 a0_2 a0_3 a0_4 a0_5 a0_6 a0_7 a0_8 a0_9 a0_10 a0_11)) else (if x5_3 = (4 : Int) then (if a0_8 ≥ 0 then (leveeref07_Right.l0 k3 (decide (a0_8 < 4096)) (wrap64 (x5_3 + 1)) a0_0 a0_1 a0_2 a0_3 a0_4 a0_5 a0_6 a0_7 a0_8 a0_9 a0_10 a0_11) else (leveeref07_Right.l0 k3 false (wrap64 (x5_3 + 1)) a0_0 a0_1 a0_2 a0_3 a0_4 a0_5 a0_6 a0_7 a0_8 a0_9 a0_10 a0_11)) else (if x5_3 = (5 : Int) then (if a0_9 ≥ 0 then (leveeref07_Right.l0 k3 (decide (a0_9 < 4096)) (wrap64 (x5_3 + 1)) a0_0 a0_1 a0_2 a0_3 a0_4 a0_5 a0_6 a0_7 a0_8 a0_9 a0_10 a0_11) else (leveeref07_Right.l0 k3 false (wrap64 (x5_3 + 1)) a0_0 a0_1 a0_2 a0_3 a0_4 a0_5 a0_6 a0_7 a0_8 a0_9 a0_10 a0_11)) else (none))))))) = some r := by rw [if_pos rfl] at H; exact H
          clear H
          have H := H1
          clear H1
          by_cases c61 : x5_3 = (0 : Int)
          ·rw [if_pos c61] at H
           have c61z := Aside0.mk c61
           (try (have c61i : ∀ (t_ : TypeId) (v_ : Value), Instr.index t_ v_ (.int .i64 x5_3) = Instr.index t_ v_ (.int .i64 0) := fun _ _ => by rw [c61]))
           (try (have c61a : ∀ (t_ : TypeId) (v_ : Value), Instr.indexAt t_ v_ (.int .i64 x5_3) = Instr.indexAt t_ v_ (.int .i64 0) := fun _ _ => by rw [c61]))
           (try (have c61j22 : ∀ (W_ : World) (v0_ v1_ v2_ v3_ v4_ v5_ : Value), (Instr.index 22 (.agg #[v0_, v1_, v2_, v3_, v4_, v5_]) (.int .i64 0)).run Try.prog W_ = .ok v0_ W_ := by intros; kernel_rfl))
           (try (have c61j49 : ∀ (W_ : World) (v0_ v1_ v2_ v3_ v4_ v5_ v6_ v7_ : Value), (Instr.index 49 (.agg #[v0_, v1_, v2_, v3_, v4_, v5_, v6_, v7_]) (.int .i64 0)).run Try.prog W_ = .ok v0_ W_ := by intros; kernel_rfl))
           have c61b0 : (x5_3 == (0 : Int)) = true := beq_iff_eq.mpr c61
           have c61b1 : (x5_3 != (0 : Int)) = false := bne_eq_false_iff_eq.mpr c61
           clear c61
           by_cases c62 : a0_4 ≥ 0
           ·rw [if_pos c62] at H
            have c62b0 : decide (0 ≤ a0_4) = true := decide_eq_true c62
            clear c62
            have H' := Aside0.mk H
            clear H
            have hnb63 := NB116_117.out
            have hnc63 := NB117_116.out
            have q_ := cells12 BK116.out; have hcz64_0 := q_.c0; have hcz64_1 := q_.c1; have hcz64_2 := q_.c2; have hcz64_3 := q_.c3; have hcz64_4 := q_.c4; have hcz64_5 := q_.c5; have hcz64_6 := q_.c6; have hcz64_7 := q_.c7; have hcz64_8 := q_.c8; have hcz64_9 := q_.c9; have hcz64_10 := q_.c10; have hcz64_11 := q_.c11; have hfz64_0 := q_.f0; have hfz64_1 := q_.f1; have hfz64_2 := q_.f2; have hfz64_3 := q_.f3; have hfz64_4 := q_.f4; have hfz64_5 := q_.f5; have hfz64_6 := q_.f6; have hfz64_7 := q_.f7; have hfz64_8 := q_.f8; have hfz64_9 := q_.f9; have hfz64_10 := q_.f10; have hfz64_11 := q_.f11; clear q_
            go_wp2
            go_roundg k3
            case measure => have := HJ7.out; have := HJ36.out; have := HK3.out; omega
            case rel => exact ⟨(decide (a0_4 < 4096)), (wrap64 (x5_3 + 1)), (by first | rfl | (simp; done) | (simp [*]; done) | (have hz_ := c61z.out; congr 1; unfold wrap64; omega)), (by first | rfl | (simp; done) | (simp [*]; done) | (have hz_ := c61z.out; congr 1; unfold wrap64; omega)), H', ⟨by have := HJ7.out; have := HJ36.out; have := HK3.out; omega⟩, ⟨by (with_reducible repeat (first | refine blk_drewN ?_ _ | refine blk_drew ?_ | refine blk_alloc ?_ _)); exact BK116.out⟩, ⟨by (with_reducible repeat (first | refine blk_drewN ?_ _ | refine blk_drew ?_ | refine blk_alloc ?_ _)); exact BK117.out⟩, ⟨by repeat (first | (with_reducible first | exact HB.out | apply below_alloc | apply pw_below_drewN | apply below_drew1 | refine below_set ?_ GE116.out | refine below_set ?_ GE117.out) | exact HB.out)⟩⟩
           ·rw [if_neg c62] at H
            have c62b0 : decide (0 ≤ a0_4) = false := decide_eq_false c62
            clear c62
            have H' := Aside0.mk H
            clear H
            have hnb65 := NB116_117.out
            have hnc65 := NB117_116.out
            have q_ := cells12 BK116.out; have hcz66_0 := q_.c0; have hcz66_1 := q_.c1; have hcz66_2 := q_.c2; have hcz66_3 := q_.c3; have hcz66_4 := q_.c4; have hcz66_5 := q_.c5; have hcz66_6 := q_.c6; have hcz66_7 := q_.c7; have hcz66_8 := q_.c8; have hcz66_9 := q_.c9; have hcz66_10 := q_.c10; have hcz66_11 := q_.c11; have hfz66_0 := q_.f0; have hfz66_1 := q_.f1; have hfz66_2 := q_.f2; have hfz66_3 := q_.f3; have hfz66_4 := q_.f4; have hfz66_5 := q_.f5; have hfz66_6 := q_.f6; have hfz66_7 := q_.f7; have hfz66_8 := q_.f8; have hfz66_9 := q_.f9; have hfz66_10 := q_.f10; have hfz66_11 := q_.f11; clear q_
            go_wp2
            go_roundg k3
            case measure => have := HJ7.out; have := HJ36.out; have := HK3.out; omega
            case rel => exact ⟨(false), (wrap64 (x5_3 + 1)), (by first | rfl | (simp; done) | (simp [*]; done) | (have hz_ := c61z.out; congr 1; unfold wrap64; omega)), (by first | rfl | (simp; done) | (simp [*]; done) | (have hz_ := c61z.out; congr 1; unfold wrap64; omega)), H', ⟨by have := HJ7.out; have := HJ36.out; have := HK3.out; omega⟩, ⟨by (with_reducible repeat (first | refine blk_drewN ?_ _ | refine blk_drew ?_ | refine blk_alloc ?_ _)); exact BK116.out⟩, ⟨by (with_reducible repeat (first | refine blk_drewN ?_ _ | refine blk_drew ?_ | refine blk_alloc ?_ _)); exact BK117.out⟩, ⟨by repeat (first | (with_reducible first | exact HB.out | apply below_alloc | apply pw_below_drewN | apply below_drew1 | refine below_set ?_ GE116.out | refine below_set ?_ GE117.out) | exact HB.out)⟩⟩
          ·rw [if_neg c61] at H
           have c61b0 : (x5_3 == (0 : Int)) = false := beq_eq_false_iff_ne.mpr c61
           have c61b1 : (x5_3 != (0 : Int)) = true := bne_iff_ne.mpr c61
           by_cases c67 : x5_3 = (1 : Int)
           ·rw [if_pos c67] at H
            have c67z := Aside0.mk c67
            (try (have c67i : ∀ (t_ : TypeId) (v_ : Value), Instr.index t_ v_ (.int .i64 x5_3) = Instr.index t_ v_ (.int .i64 1) := fun _ _ => by rw [c67]))
            (try (have c67a : ∀ (t_ : TypeId) (v_ : Value), Instr.indexAt t_ v_ (.int .i64 x5_3) = Instr.indexAt t_ v_ (.int .i64 1) := fun _ _ => by rw [c67]))
            (try (have c67j22 : ∀ (W_ : World) (v0_ v1_ v2_ v3_ v4_ v5_ : Value), (Instr.index 22 (.agg #[v0_, v1_, v2_, v3_, v4_, v5_]) (.int .i64 1)).run Try.prog W_ = .ok v1_ W_ := by intros; kernel_rfl))
            (try (have c67j49 : ∀ (W_ : World) (v0_ v1_ v2_ v3_ v4_ v5_ v6_ v7_ : Value), (Instr.index 49 (.agg #[v0_, v1_, v2_, v3_, v4_, v5_, v6_, v7_]) (.int .i64 1)).run Try.prog W_ = .ok v1_ W_ := by intros; kernel_rfl))
            have c67b0 : (x5_3 == (1 : Int)) = true := beq_iff_eq.mpr c67
            have c67b1 : (x5_3 != (1 : Int)) = false := bne_eq_false_iff_eq.mpr c67
            clear c67
            by_cases c68 : a0_5 ≥ 0
            ·rw [if_pos c68] at H
             have c68b0 : decide (0 ≤ a0_5) = true := decide_eq_true c68
             clear c68
             have H' := Aside0.mk H
             clear H
             have hnb69 := NB116_117.out
             have hnc69 := NB117_116.out
             have q_ := cells12 BK116.out; have hcz70_0 := q_.c0; have hcz70_1 := q_.c1; have hcz70_2 := q_.c2; have hcz70_3 := q_.c3; have hcz70_4 := q_.c4; have hcz70_5 := q_.c5; have hcz70_6 := q_.c6; have hcz70_7 := q_.c7; have hcz70_8 := q_.c8; have hcz70_9 := q_.c9; have hcz70_10 := q_.c10; have hcz70_11 := q_.c11; have hfz70_0 := q_.f0; have hfz70_1 := q_.f1; have hfz70_2 := q_.f2; have hfz70_3 := q_.f3; have hfz70_4 := q_.f4; have hfz70_5 := q_.f5; have hfz70_6 := q_.f6; have hfz70_7 := q_.f7; have hfz70_8 := q_.f8; have hfz70_9 := q_.f9; have hfz70_10 := q_.f10; have hfz70_11 := q_.f11; clear q_
             go_wp2
             go_roundg k3
             case measure => have := HJ7.out; have := HJ36.out; have := HK3.out; omega
             case rel => exact ⟨(decide (a0_5 < 4096)), (wrap64 (x5_3 + 1)), (by first | rfl | (simp; done) | (simp [*]; done) | (have hz_ := c67z.out; congr 1; unfold wrap64; omega)), (by first | rfl | (simp; done) | (simp [*]; done) | (have hz_ := c67z.out; congr 1; unfold wrap64; omega)), H', ⟨by have := HJ7.out; have := HJ36.out; have := HK3.out; omega⟩, ⟨by (with_reducible repeat (first | refine blk_drewN ?_ _ | refine blk_drew ?_ | refine blk_alloc ?_ _)); exact BK116.out⟩, ⟨by (with_reducible repeat (first | refine blk_drewN ?_ _ | refine blk_drew ?_ | refine blk_alloc ?_ _)); exact BK117.out⟩, ⟨by repeat (first | (with_reducible first | exact HB.out | apply below_alloc | apply pw_below_drewN | apply below_drew1 | refine below_set ?_ GE116.out | refine below_set ?_ GE117.out) | exact HB.out)⟩⟩
            ·rw [if_neg c68] at H
             have c68b0 : decide (0 ≤ a0_5) = false := decide_eq_false c68
             clear c68
             have H' := Aside0.mk H
             clear H
             have hnb71 := NB116_117.out
             have hnc71 := NB117_116.out
             have q_ := cells12 BK116.out; have hcz72_0 := q_.c0; have hcz72_1 := q_.c1; have hcz72_2 := q_.c2; have hcz72_3 := q_.c3; have hcz72_4 := q_.c4; have hcz72_5 := q_.c5; have hcz72_6 := q_.c6; have hcz72_7 := q_.c7; have hcz72_8 := q_.c8; have hcz72_9 := q_.c9; have hcz72_10 := q_.c10; have hcz72_11 := q_.c11; have hfz72_0 := q_.f0; have hfz72_1 := q_.f1; have hfz72_2 := q_.f2; have hfz72_3 := q_.f3; have hfz72_4 := q_.f4; have hfz72_5 := q_.f5; have hfz72_6 := q_.f6; have hfz72_7 := q_.f7; have hfz72_8 := q_.f8; have hfz72_9 := q_.f9; have hfz72_10 := q_.f10; have hfz72_11 := q_.f11; clear q_
             go_wp2
             go_roundg k3
             case measure => have := HJ7.out; have := HJ36.out; have := HK3.out; omega
             case rel => exact ⟨(false), (wrap64 (x5_3 + 1)), (by first | rfl | (simp; done) | (simp [*]; done) | (have hz_ := c67z.out; congr 1; unfold wrap64; omega)), (by first | rfl | (simp; done) | (simp [*]; done) | (have hz_ := c67z.out; congr 1; unfold wrap64; omega)), H', ⟨by have := HJ7.out; have := HJ36.out; have := HK3.out; omega⟩, ⟨by (with_reducible repeat (first | refine blk_drewN ?_ _ | refine blk_drew ?_ | refine blk_alloc ?_ _)); exact BK116.out⟩, ⟨by (with_reducible repeat (first | refine blk_drewN ?_ _ | refine blk_drew ?_ | refine blk_alloc ?_ _)); exact BK117.out⟩, ⟨by repeat (first | (with_reducible first | exact HB.out | apply below_alloc | apply pw_below_drewN | apply below_drew1 | refine below_set ?_ GE116.out | refine below_set ?_ GE117.out) | exact HB.out)⟩⟩
           ·rw [if_neg c67] at H
            have c67b0 : (x5_3 == (1 : Int)) = false := beq_eq_false_iff_ne.mpr c67
            have c67b1 : (x5_3 != (1 : Int)) = true := bne_iff_ne.mpr c67
            by_cases c73 : x5_3 = (2 : Int)
            ·rw [if_pos c73] at H
             have c73z := Aside0.mk c73
             (try (have c73i : ∀ (t_ : TypeId) (v_ : Value), Instr.index t_ v_ (.int .i64 x5_3) = Instr.index t_ v_ (.int .i64 2) := fun _ _ => by rw [c73]))
             (try (have c73a : ∀ (t_ : TypeId) (v_ : Value), Instr.indexAt t_ v_ (.int .i64 x5_3) = Instr.indexAt t_ v_ (.int .i64 2) := fun _ _ => by rw [c73]))
             (try (have c73j22 : ∀ (W_ : World) (v0_ v1_ v2_ v3_ v4_ v5_ : Value), (Instr.index 22 (.agg #[v0_, v1_, v2_, v3_, v4_, v5_]) (.int .i64 2)).run Try.prog W_ = .ok v2_ W_ := by intros; kernel_rfl))
             (try (have c73j49 : ∀ (W_ : World) (v0_ v1_ v2_ v3_ v4_ v5_ v6_ v7_ : Value), (Instr.index 49 (.agg #[v0_, v1_, v2_, v3_, v4_, v5_, v6_, v7_]) (.int .i64 2)).run Try.prog W_ = .ok v2_ W_ := by intros; kernel_rfl))
             have c73b0 : (x5_3 == (2 : Int)) = true := beq_iff_eq.mpr c73
             have c73b1 : (x5_3 != (2 : Int)) = false := bne_eq_false_iff_eq.mpr c73
             clear c73
             by_cases c74 : a0_6 ≥ 0
             ·rw [if_pos c74] at H
              have c74b0 : decide (0 ≤ a0_6) = true := decide_eq_true c74
              clear c74
              have H' := Aside0.mk H
              clear H
              have hnb75 := NB116_117.out
              have hnc75 := NB117_116.out
              have q_ := cells12 BK116.out; have hcz76_0 := q_.c0; have hcz76_1 := q_.c1; have hcz76_2 := q_.c2; have hcz76_3 := q_.c3; have hcz76_4 := q_.c4; have hcz76_5 := q_.c5; have hcz76_6 := q_.c6; have hcz76_7 := q_.c7; have hcz76_8 := q_.c8; have hcz76_9 := q_.c9; have hcz76_10 := q_.c10; have hcz76_11 := q_.c11; have hfz76_0 := q_.f0; have hfz76_1 := q_.f1; have hfz76_2 := q_.f2; have hfz76_3 := q_.f3; have hfz76_4 := q_.f4; have hfz76_5 := q_.f5; have hfz76_6 := q_.f6; have hfz76_7 := q_.f7; have hfz76_8 := q_.f8; have hfz76_9 := q_.f9; have hfz76_10 := q_.f10; have hfz76_11 := q_.f11; clear q_
              go_wp2
              go_roundg k3
              case measure => have := HJ7.out; have := HJ36.out; have := HK3.out; omega
              case rel => exact ⟨(decide (a0_6 < 4096)), (wrap64 (x5_3 + 1)), (by first | rfl | (simp; done) | (simp [*]; done) | (have hz_ := c73z.out; congr 1; unfold wrap64; omega)), (by first | rfl | (simp; done) | (simp [*]; done) | (have hz_ := c73z.out; congr 1; unfold wrap64; omega)), H', ⟨by have := HJ7.out; have := HJ36.out; have := HK3.out; omega⟩, ⟨by (with_reducible repeat (first | refine blk_drewN ?_ _ | refine blk_drew ?_ | refine blk_alloc ?_ _)); exact BK116.out⟩, ⟨by (with_reducible repeat (first | refine blk_drewN ?_ _ | refine blk_drew ?_ | refine blk_alloc ?_ _)); exact BK117.out⟩, ⟨by repeat (first | (with_reducible first | exact HB.out | apply below_alloc | apply pw_below_drewN | apply below_drew1 | refine below_set ?_ GE116.out | refine below_set ?_ GE117.out) | exact HB.out)⟩⟩
             ·rw [if_neg c74] at H
              have c74b0 : decide (0 ≤ a0_6) = false := decide_eq_false c74
              clear c74
              have H' := Aside0.mk H
              clear H
              have hnb77 := NB116_117.out
              have hnc77 := NB117_116.out
              have q_ := cells12 BK116.out; have hcz78_0 := q_.c0; have hcz78_1 := q_.c1; have hcz78_2 := q_.c2; have hcz78_3 := q_.c3; have hcz78_4 := q_.c4; have hcz78_5 := q_.c5; have hcz78_6 := q_.c6; have hcz78_7 := q_.c7; have hcz78_8 := q_.c8; have hcz78_9 := q_.c9; have hcz78_10 := q_.c10; have hcz78_11 := q_.c11; have hfz78_0 := q_.f0; have hfz78_1 := q_.f1; have hfz78_2 := q_.f2; have hfz78_3 := q_.f3; have hfz78_4 := q_.f4; have hfz78_5 := q_.f5; have hfz78_6 := q_.f6; have hfz78_7 := q_.f7; have hfz78_8 := q_.f8; have hfz78_9 := q_.f9; have hfz78_10 := q_.f10; have hfz78_11 := q_.f11; clear q_
              go_wp2
              go_roundg k3
              case measure => have := HJ7.out; have := HJ36.out; have := HK3.out; omega
              case rel => exact ⟨(false), (wrap64 (x5_3 + 1)), (by first | rfl | (simp; done) | (simp [*]; done) | (have hz_ := c73z.out; congr 1; unfold wrap64; omega)), (by first | rfl | (simp; done) | (simp [*]; done) | (have hz_ := c73z.out; congr 1; unfold wrap64; omega)), H', ⟨by have := HJ7.out; have := HJ36.out; have := HK3.out; omega⟩, ⟨by (with_reducible repeat (first | refine blk_drewN ?_ _ | refine blk_drew ?_ | refine blk_alloc ?_ _)); exact BK116.out⟩, ⟨by (with_reducible repeat (first | refine blk_drewN ?_ _ | refine blk_drew ?_ | refine blk_alloc ?_ _)); exact BK117.out⟩, ⟨by repeat (first | (with_reducible first | exact HB.out | apply below_alloc | apply pw_below_drewN | apply below_drew1 | refine below_set ?_ GE116.out | refine below_set ?_ GE117.out) | exact HB.out)⟩⟩
            ·rw [if_neg c73] at H
             have c73b0 : (x5_3 == (2 : Int)) = false := beq_eq_false_iff_ne.mpr c73
             have c73b1 : (x5_3 != (2 : Int)) = true := bne_iff_ne.mpr c73
             by_cases c79 : x5_3 = (3 : Int)
             ·rw [if_pos c79] at H
              have c79z := Aside0.mk c79
              (try (have c79i : ∀ (t_ : TypeId) (v_ : Value), Instr.index t_ v_ (.int .i64 x5_3) = Instr.index t_ v_ (.int .i64 3) := fun _ _ => by rw [c79]))
              (try (have c79a : ∀ (t_ : TypeId) (v_ : Value), Instr.indexAt t_ v_ (.int .i64 x5_3) = Instr.indexAt t_ v_ (.int .i64 3) := fun _ _ => by rw [c79]))
              (try (have c79j22 : ∀ (W_ : World) (v0_ v1_ v2_ v3_ v4_ v5_ : Value), (Instr.index 22 (.agg #[v0_, v1_, v2_, v3_, v4_, v5_]) (.int .i64 3)).run Try.prog W_ = .ok v3_ W_ := by intros; kernel_rfl))
              (try (have c79j49 : ∀ (W_ : World) (v0_ v1_ v2_ v3_ v4_ v5_ v6_ v7_ : Value), (Instr.index 49 (.agg #[v0_, v1_, v2_, v3_, v4_, v5_, v6_, v7_]) (.int .i64 3)).run Try.prog W_ = .ok v3_ W_ := by intros; kernel_rfl))
              have c79b0 : (x5_3 == (3 : Int)) = true := beq_iff_eq.mpr c79
              have c79b1 : (x5_3 != (3 : Int)) = false := bne_eq_false_iff_eq.mpr c79
              clear c79
              by_cases c80 : a0_7 ≥ 0
              ·rw [if_pos c80] at H
               have c80b0 : decide (0 ≤ a0_7) = true := decide_eq_true c80
               clear c80
               have H' := Aside0.mk H
               clear H
               have hnb81 := NB116_117.out
               have hnc81 := NB117_116.out
               have q_ := cells12 BK116.out; have hcz82_0 := q_.c0; have hcz82_1 := q_.c1; have hcz82_2 := q_.c2; have hcz82_3 := q_.c3; have hcz82_4 := q_.c4; have hcz82_5 := q_.c5; have hcz82_6 := q_.c6; have hcz82_7 := q_.c7; have hcz82_8 := q_.c8; have hcz82_9 := q_.c9; have hcz82_10 := q_.c10; have hcz82_11 := q_.c11; have hfz82_0 := q_.f0; have hfz82_1 := q_.f1; have hfz82_2 := q_.f2; have hfz82_3 := q_.f3; have hfz82_4 := q_.f4; have hfz82_5 := q_.f5; have hfz82_6 := q_.f6; have hfz82_7 := q_.f7; have hfz82_8 := q_.f8; have hfz82_9 := q_.f9; have hfz82_10 := q_.f10; have hfz82_11 := q_.f11; clear q_
               go_wp2
               go_roundg k3
               case measure => have := HJ7.out; have := HJ36.out; have := HK3.out; omega
               case rel => exact ⟨(decide (a0_7 < 4096)), (wrap64 (x5_3 + 1)), (by first | rfl | (simp; done) | (simp [*]; done) | (have hz_ := c79z.out; congr 1; unfold wrap64; omega)), (by first | rfl | (simp; done) | (simp [*]; done) | (have hz_ := c79z.out; congr 1; unfold wrap64; omega)), H', ⟨by have := HJ7.out; have := HJ36.out; have := HK3.out; omega⟩, ⟨by (with_reducible repeat (first | refine blk_drewN ?_ _ | refine blk_drew ?_ | refine blk_alloc ?_ _)); exact BK116.out⟩, ⟨by (with_reducible repeat (first | refine blk_drewN ?_ _ | refine blk_drew ?_ | refine blk_alloc ?_ _)); exact BK117.out⟩, ⟨by repeat (first | (with_reducible first | exact HB.out | apply below_alloc | apply pw_below_drewN | apply below_drew1 | refine below_set ?_ GE116.out | refine below_set ?_ GE117.out) | exact HB.out)⟩⟩
              ·rw [if_neg c80] at H
               have c80b0 : decide (0 ≤ a0_7) = false := decide_eq_false c80
               clear c80
               have H' := Aside0.mk H
               clear H
               have hnb83 := NB116_117.out
               have hnc83 := NB117_116.out
               have q_ := cells12 BK116.out; have hcz84_0 := q_.c0; have hcz84_1 := q_.c1; have hcz84_2 := q_.c2; have hcz84_3 := q_.c3; have hcz84_4 := q_.c4; have hcz84_5 := q_.c5; have hcz84_6 := q_.c6; have hcz84_7 := q_.c7; have hcz84_8 := q_.c8; have hcz84_9 := q_.c9; have hcz84_10 := q_.c10; have hcz84_11 := q_.c11; have hfz84_0 := q_.f0; have hfz84_1 := q_.f1; have hfz84_2 := q_.f2; have hfz84_3 := q_.f3; have hfz84_4 := q_.f4; have hfz84_5 := q_.f5; have hfz84_6 := q_.f6; have hfz84_7 := q_.f7; have hfz84_8 := q_.f8; have hfz84_9 := q_.f9; have hfz84_10 := q_.f10; have hfz84_11 := q_.f11; clear q_
               go_wp2
               go_roundg k3
               case measure => have := HJ7.out; have := HJ36.out; have := HK3.out; omega
               case rel => exact ⟨(false), (wrap64 (x5_3 + 1)), (by first | rfl | (simp; done) | (simp [*]; done) | (have hz_ := c79z.out; congr 1; unfold wrap64; omega)), (by first | rfl | (simp; done) | (simp [*]; done) | (have hz_ := c79z.out; congr 1; unfold wrap64; omega)), H', ⟨by have := HJ7.out; have := HJ36.out; have := HK3.out; omega⟩, ⟨by (with_reducible repeat (first | refine blk_drewN ?_ _ | refine blk_drew ?_ | refine blk_alloc ?_ _)); exact BK116.out⟩, ⟨by (with_reducible repeat (first | refine blk_drewN ?_ _ | refine blk_drew ?_ | refine blk_alloc ?_ _)); exact BK117.out⟩, ⟨by repeat (first | (with_reducible first | exact HB.out | apply below_alloc | apply pw_below_drewN | apply below_drew1 | refine below_set ?_ GE116.out | refine below_set ?_ GE117.out) | exact HB.out)⟩⟩
             ·rw [if_neg c79] at H
              have c79b0 : (x5_3 == (3 : Int)) = false := beq_eq_false_iff_ne.mpr c79
              have c79b1 : (x5_3 != (3 : Int)) = true := bne_iff_ne.mpr c79
              by_cases c85 : x5_3 = (4 : Int)
              ·rw [if_pos c85] at H
               have c85z := Aside0.mk c85
               (try (have c85i : ∀ (t_ : TypeId) (v_ : Value), Instr.index t_ v_ (.int .i64 x5_3) = Instr.index t_ v_ (.int .i64 4) := fun _ _ => by rw [c85]))
               (try (have c85a : ∀ (t_ : TypeId) (v_ : Value), Instr.indexAt t_ v_ (.int .i64 x5_3) = Instr.indexAt t_ v_ (.int .i64 4) := fun _ _ => by rw [c85]))
               (try (have c85j22 : ∀ (W_ : World) (v0_ v1_ v2_ v3_ v4_ v5_ : Value), (Instr.index 22 (.agg #[v0_, v1_, v2_, v3_, v4_, v5_]) (.int .i64 4)).run Try.prog W_ = .ok v4_ W_ := by intros; kernel_rfl))
               (try (have c85j49 : ∀ (W_ : World) (v0_ v1_ v2_ v3_ v4_ v5_ v6_ v7_ : Value), (Instr.index 49 (.agg #[v0_, v1_, v2_, v3_, v4_, v5_, v6_, v7_]) (.int .i64 4)).run Try.prog W_ = .ok v4_ W_ := by intros; kernel_rfl))
               have c85b0 : (x5_3 == (4 : Int)) = true := beq_iff_eq.mpr c85
               have c85b1 : (x5_3 != (4 : Int)) = false := bne_eq_false_iff_eq.mpr c85
               clear c85
               by_cases c86 : a0_8 ≥ 0
               ·rw [if_pos c86] at H
                have c86b0 : decide (0 ≤ a0_8) = true := decide_eq_true c86
                clear c86
                have H' := Aside0.mk H
                clear H
                have hnb87 := NB116_117.out
                have hnc87 := NB117_116.out
                have q_ := cells12 BK116.out; have hcz88_0 := q_.c0; have hcz88_1 := q_.c1; have hcz88_2 := q_.c2; have hcz88_3 := q_.c3; have hcz88_4 := q_.c4; have hcz88_5 := q_.c5; have hcz88_6 := q_.c6; have hcz88_7 := q_.c7; have hcz88_8 := q_.c8; have hcz88_9 := q_.c9; have hcz88_10 := q_.c10; have hcz88_11 := q_.c11; have hfz88_0 := q_.f0; have hfz88_1 := q_.f1; have hfz88_2 := q_.f2; have hfz88_3 := q_.f3; have hfz88_4 := q_.f4; have hfz88_5 := q_.f5; have hfz88_6 := q_.f6; have hfz88_7 := q_.f7; have hfz88_8 := q_.f8; have hfz88_9 := q_.f9; have hfz88_10 := q_.f10; have hfz88_11 := q_.f11; clear q_
                go_wp2
                go_roundg k3
                case measure => have := HJ7.out; have := HJ36.out; have := HK3.out; omega
                case rel => exact ⟨(decide (a0_8 < 4096)), (wrap64 (x5_3 + 1)), (by first | rfl | (simp; done) | (simp [*]; done) | (have hz_ := c85z.out; congr 1; unfold wrap64; omega)), (by first | rfl | (simp; done) | (simp [*]; done) | (have hz_ := c85z.out; congr 1; unfold wrap64; omega)), H', ⟨by have := HJ7.out; have := HJ36.out; have := HK3.out; omega⟩, ⟨by (with_reducible repeat (first | refine blk_drewN ?_ _ | refine blk_drew ?_ | refine blk_alloc ?_ _)); exact BK116.out⟩, ⟨by (with_reducible repeat (first | refine blk_drewN ?_ _ | refine blk_drew ?_ | refine blk_alloc ?_ _)); exact BK117.out⟩, ⟨by repeat (first | (with_reducible first | exact HB.out | apply below_alloc | apply pw_below_drewN | apply below_drew1 | refine below_set ?_ GE116.out | refine below_set ?_ GE117.out) | exact HB.out)⟩⟩
               ·rw [if_neg c86] at H
                have c86b0 : decide (0 ≤ a0_8) = false := decide_eq_false c86
                clear c86
                have H' := Aside0.mk H
                clear H
                have hnb89 := NB116_117.out
                have hnc89 := NB117_116.out
                have q_ := cells12 BK116.out; have hcz90_0 := q_.c0; have hcz90_1 := q_.c1; have hcz90_2 := q_.c2; have hcz90_3 := q_.c3; have hcz90_4 := q_.c4; have hcz90_5 := q_.c5; have hcz90_6 := q_.c6; have hcz90_7 := q_.c7; have hcz90_8 := q_.c8; have hcz90_9 := q_.c9; have hcz90_10 := q_.c10; have hcz90_11 := q_.c11; have hfz90_0 := q_.f0; have hfz90_1 := q_.f1; have hfz90_2 := q_.f2; have hfz90_3 := q_.f3; have hfz90_4 := q_.f4; have hfz90_5 := q_.f5; have hfz90_6 := q_.f6; have hfz90_7 := q_.f7; have hfz90_8 := q_.f8; have hfz90_9 := q_.f9; have hfz90_10 := q_.f10; have hfz90_11 := q_.f11; clear q_
                go_wp2
                go_roundg k3
                case measure => have := HJ7.out; have := HJ36.out; have := HK3.out; omega
                case rel => exact ⟨(false), (wrap64 (x5_3 + 1)), (by first | rfl | (simp; done) | (simp [*]; done) | (have hz_ := c85z.out; congr 1; unfold wrap64; omega)), (by first | rfl | (simp; done) | (simp [*]; done) | (have hz_ := c85z.out; congr 1; unfold wrap64; omega)), H', ⟨by have := HJ7.out; have := HJ36.out; have := HK3.out; omega⟩, ⟨by (with_reducible repeat (first | refine blk_drewN ?_ _ | refine blk_drew ?_ | refine blk_alloc ?_ _)); exact BK116.out⟩, ⟨by (with_reducible repeat (first | refine blk_drewN ?_ _ | refine blk_drew ?_ | refine blk_alloc ?_ _)); exact BK117.out⟩, ⟨by repeat (first | (with_reducible first | exact HB.out | apply below_alloc | apply pw_below_drewN | apply below_drew1 | refine below_set ?_ GE116.out | refine below_set ?_ GE117.out) | exact HB.out)⟩⟩
              ·rw [if_neg c85] at H
               have c85b0 : (x5_3 == (4 : Int)) = false := beq_eq_false_iff_ne.mpr c85
               have c85b1 : (x5_3 != (4 : Int)) = true := bne_iff_ne.mpr c85
               by_cases c91 : x5_3 = (5 : Int)
               ·rw [if_pos c91] at H
                have c91z := Aside0.mk c91
                (try (have c91i : ∀ (t_ : TypeId) (v_ : Value), Instr.index t_ v_ (.int .i64 x5_3) = Instr.index t_ v_ (.int .i64 5) := fun _ _ => by rw [c91]))
                (try (have c91a : ∀ (t_ : TypeId) (v_ : Value), Instr.indexAt t_ v_ (.int .i64 x5_3) = Instr.indexAt t_ v_ (.int .i64 5) := fun _ _ => by rw [c91]))
                (try (have c91j22 : ∀ (W_ : World) (v0_ v1_ v2_ v3_ v4_ v5_ : Value), (Instr.index 22 (.agg #[v0_, v1_, v2_, v3_, v4_, v5_]) (.int .i64 5)).run Try.prog W_ = .ok v5_ W_ := by intros; kernel_rfl))
                (try (have c91j49 : ∀ (W_ : World) (v0_ v1_ v2_ v3_ v4_ v5_ v6_ v7_ : Value), (Instr.index 49 (.agg #[v0_, v1_, v2_, v3_, v4_, v5_, v6_, v7_]) (.int .i64 5)).run Try.prog W_ = .ok v5_ W_ := by intros; kernel_rfl))
                have c91b0 : (x5_3 == (5 : Int)) = true := beq_iff_eq.mpr c91
                have c91b1 : (x5_3 != (5 : Int)) = false := bne_eq_false_iff_eq.mpr c91
                clear c91
                by_cases c92 : a0_9 ≥ 0
                ·rw [if_pos c92] at H
                 have c92b0 : decide (0 ≤ a0_9) = true := decide_eq_true c92
                 clear c92
                 have H' := Aside0.mk H
                 clear H
                 have hnb93 := NB116_117.out
                 have hnc93 := NB117_116.out
                 have q_ := cells12 BK116.out; have hcz94_0 := q_.c0; have hcz94_1 := q_.c1; have hcz94_2 := q_.c2; have hcz94_3 := q_.c3; have hcz94_4 := q_.c4; have hcz94_5 := q_.c5; have hcz94_6 := q_.c6; have hcz94_7 := q_.c7; have hcz94_8 := q_.c8; have hcz94_9 := q_.c9; have hcz94_10 := q_.c10; have hcz94_11 := q_.c11; have hfz94_0 := q_.f0; have hfz94_1 := q_.f1; have hfz94_2 := q_.f2; have hfz94_3 := q_.f3; have hfz94_4 := q_.f4; have hfz94_5 := q_.f5; have hfz94_6 := q_.f6; have hfz94_7 := q_.f7; have hfz94_8 := q_.f8; have hfz94_9 := q_.f9; have hfz94_10 := q_.f10; have hfz94_11 := q_.f11; clear q_
                 go_wp2
                 go_roundg k3
                 case measure => have := HJ7.out; have := HJ36.out; have := HK3.out; omega
                 case rel => exact ⟨(decide (a0_9 < 4096)), (wrap64 (x5_3 + 1)), (by first | rfl | (simp; done) | (simp [*]; done) | (have hz_ := c91z.out; congr 1; unfold wrap64; omega)), (by first | rfl | (simp; done) | (simp [*]; done) | (have hz_ := c91z.out; congr 1; unfold wrap64; omega)), H', ⟨by have := HJ7.out; have := HJ36.out; have := HK3.out; omega⟩, ⟨by (with_reducible repeat (first | refine blk_drewN ?_ _ | refine blk_drew ?_ | refine blk_alloc ?_ _)); exact BK116.out⟩, ⟨by (with_reducible repeat (first | refine blk_drewN ?_ _ | refine blk_drew ?_ | refine blk_alloc ?_ _)); exact BK117.out⟩, ⟨by repeat (first | (with_reducible first | exact HB.out | apply below_alloc | apply pw_below_drewN | apply below_drew1 | refine below_set ?_ GE116.out | refine below_set ?_ GE117.out) | exact HB.out)⟩⟩
                ·rw [if_neg c92] at H
                 have c92b0 : decide (0 ≤ a0_9) = false := decide_eq_false c92
                 clear c92
                 have H' := Aside0.mk H
                 clear H
                 have hnb95 := NB116_117.out
                 have hnc95 := NB117_116.out
                 have q_ := cells12 BK116.out; have hcz96_0 := q_.c0; have hcz96_1 := q_.c1; have hcz96_2 := q_.c2; have hcz96_3 := q_.c3; have hcz96_4 := q_.c4; have hcz96_5 := q_.c5; have hcz96_6 := q_.c6; have hcz96_7 := q_.c7; have hcz96_8 := q_.c8; have hcz96_9 := q_.c9; have hcz96_10 := q_.c10; have hcz96_11 := q_.c11; have hfz96_0 := q_.f0; have hfz96_1 := q_.f1; have hfz96_2 := q_.f2; have hfz96_3 := q_.f3; have hfz96_4 := q_.f4; have hfz96_5 := q_.f5; have hfz96_6 := q_.f6; have hfz96_7 := q_.f7; have hfz96_8 := q_.f8; have hfz96_9 := q_.f9; have hfz96_10 := q_.f10; have hfz96_11 := q_.f11; clear q_
                 go_wp2
                 go_roundg k3
                 case measure => have := HJ7.out; have := HJ36.out; have := HK3.out; omega
                 case rel => exact ⟨(false), (wrap64 (x5_3 + 1)), (by first | rfl | (simp; done) | (simp [*]; done) | (have hz_ := c91z.out; congr 1; unfold wrap64; omega)), (by first | rfl | (simp; done) | (simp [*]; done) | (have hz_ := c91z.out; congr 1; unfold wrap64; omega)), H', ⟨by have := HJ7.out; have := HJ36.out; have := HK3.out; omega⟩, ⟨by (with_reducible repeat (first | refine blk_drewN ?_ _ | refine blk_drew ?_ | refine blk_alloc ?_ _)); exact BK116.out⟩, ⟨by (with_reducible repeat (first | refine blk_drewN ?_ _ | refine blk_drew ?_ | refine blk_alloc ?_ _)); exact BK117.out⟩, ⟨by repeat (first | (with_reducible first | exact HB.out | apply below_alloc | apply pw_below_drewN | apply below_drew1 | refine below_set ?_ GE116.out | refine below_set ?_ GE117.out) | exact HB.out)⟩⟩
               ·rw [if_neg c91] at H
                exact absurd H (by simp)
         ·replace c60 := Bool.eq_false_iff.mpr c60
          subst c60
          have H1 : (leveeref07_Right.l0 k3 false (wrap64 (x5_3 + 1)) a0_0 a0_1 a0_2 a0_3 a0_4 a0_5 a0_6 a0_7 a0_8 a0_9 a0_10 a0_11) = some r := by rw [if_neg (show ¬ (false = true) by decide)] at H; exact H
          clear H
          have H := H1
          clear H1
          have H' := Aside0.mk H
          clear H
          go_wp2
          go_roundg k3
          case measure => have := HJ7.out; have := HJ36.out; have := HK3.out; omega
          case rel => exact ⟨(false), (wrap64 (x5_3 + 1)), (by first | rfl | (simp; done) | (simp [*]; done)), (by first | rfl | (simp; done) | (simp [*]; done)), H', ⟨by have := HJ7.out; have := HJ36.out; have := HK3.out; omega⟩, ⟨by (with_reducible repeat (first | refine blk_drewN ?_ _ | refine blk_drew ?_ | refine blk_alloc ?_ _)); exact BK116.out⟩, ⟨by (with_reducible repeat (first | refine blk_drewN ?_ _ | refine blk_drew ?_ | refine blk_alloc ?_ _)); exact BK117.out⟩, ⟨by repeat (first | (with_reducible first | exact HB.out | apply below_alloc | apply pw_below_drewN | apply below_drew1 | refine below_set ?_ GE116.out | refine below_set ?_ GE117.out) | exact HB.out)⟩⟩
        ·rw [if_neg c59] at H
         have c59b0 : decide (x5_3 < 6) = false := decide_eq_false c59
         clear c59
         by_cases c97 : x4_3 = true
         ·subst c97
          have H1 : (if a0_10 ≥ 0 then (if a0_10 < 4096 then (if a0_11 ≥ 0 then (some (decide (a0_11 < 4096))) else (some false)) else (some false)) else (some false)) = some r := by rw [if_pos rfl] at H; exact H
          clear H
          have H := H1
          clear H1
          by_cases c98 : a0_10 ≥ 0
          ·rw [if_pos c98] at H
           have c98b0 : decide (0 ≤ a0_10) = true := decide_eq_true c98
           clear c98
           by_cases c99 : a0_10 < 4096
           ·rw [if_pos c99] at H
            have c99b0 : decide (a0_10 < 4096) = true := decide_eq_true c99
            clear c99
            by_cases c100 : a0_11 ≥ 0
            ·rw [if_pos c100] at H
             have c100b0 : decide (0 ≤ a0_11) = true := decide_eq_true c100
             clear c100
             obtain rfl := Option.some.inj H
             have hnb101 := NB116_117.out
             have hnc101 := NB117_116.out
             have q_ := cells12 BK116.out; have hcz102_0 := q_.c0; have hcz102_1 := q_.c1; have hcz102_2 := q_.c2; have hcz102_3 := q_.c3; have hcz102_4 := q_.c4; have hcz102_5 := q_.c5; have hcz102_6 := q_.c6; have hcz102_7 := q_.c7; have hcz102_8 := q_.c8; have hcz102_9 := q_.c9; have hcz102_10 := q_.c10; have hcz102_11 := q_.c11; have hfz102_0 := q_.f0; have hfz102_1 := q_.f1; have hfz102_2 := q_.f2; have hfz102_3 := q_.f3; have hfz102_4 := q_.f4; have hfz102_5 := q_.f5; have hfz102_6 := q_.f6; have hfz102_7 := q_.f7; have hfz102_8 := q_.f8; have hfz102_9 := q_.f9; have hfz102_10 := q_.f10; have hfz102_11 := q_.f11; clear q_
             go_wp2
             go_ret
             exact ⟨by first | rfl | (simp [errW_none, errW_some] <;> rfl) | (simp [*, errW_none, errW_some] <;> rfl), by repeat (first | (with_reducible first | exact HB.out | apply below_alloc | apply pw_below_drewN | apply below_drew1 | refine below_set ?_ GE116.out | refine below_set ?_ GE117.out) | exact HB.out)⟩
            ·rw [if_neg c100] at H
             have c100b0 : decide (0 ≤ a0_11) = false := decide_eq_false c100
             clear c100
             obtain rfl := Option.some.inj H
             have hnb103 := NB116_117.out
             have hnc103 := NB117_116.out
             have q_ := cells12 BK116.out; have hcz104_0 := q_.c0; have hcz104_1 := q_.c1; have hcz104_2 := q_.c2; have hcz104_3 := q_.c3; have hcz104_4 := q_.c4; have hcz104_5 := q_.c5; have hcz104_6 := q_.c6; have hcz104_7 := q_.c7; have hcz104_8 := q_.c8; have hcz104_9 := q_.c9; have hcz104_10 := q_.c10; have hcz104_11 := q_.c11; have hfz104_0 := q_.f0; have hfz104_1 := q_.f1; have hfz104_2 := q_.f2; have hfz104_3 := q_.f3; have hfz104_4 := q_.f4; have hfz104_5 := q_.f5; have hfz104_6 := q_.f6; have hfz104_7 := q_.f7; have hfz104_8 := q_.f8; have hfz104_9 := q_.f9; have hfz104_10 := q_.f10; have hfz104_11 := q_.f11; clear q_
             go_wp2
             go_ret
             exact ⟨by first | rfl | (simp [errW_none, errW_some] <;> rfl) | (simp [*, errW_none, errW_some] <;> rfl), by repeat (first | (with_reducible first | exact HB.out | apply below_alloc | apply pw_below_drewN | apply below_drew1 | refine below_set ?_ GE116.out | refine below_set ?_ GE117.out) | exact HB.out)⟩
           ·rw [if_neg c99] at H
            have c99b0 : decide (a0_10 < 4096) = false := decide_eq_false c99
            clear c99
            obtain rfl := Option.some.inj H
            have hnb105 := NB116_117.out
            have hnc105 := NB117_116.out
            have q_ := cells12 BK116.out; have hcz106_0 := q_.c0; have hcz106_1 := q_.c1; have hcz106_2 := q_.c2; have hcz106_3 := q_.c3; have hcz106_4 := q_.c4; have hcz106_5 := q_.c5; have hcz106_6 := q_.c6; have hcz106_7 := q_.c7; have hcz106_8 := q_.c8; have hcz106_9 := q_.c9; have hcz106_10 := q_.c10; have hcz106_11 := q_.c11; have hfz106_0 := q_.f0; have hfz106_1 := q_.f1; have hfz106_2 := q_.f2; have hfz106_3 := q_.f3; have hfz106_4 := q_.f4; have hfz106_5 := q_.f5; have hfz106_6 := q_.f6; have hfz106_7 := q_.f7; have hfz106_8 := q_.f8; have hfz106_9 := q_.f9; have hfz106_10 := q_.f10; have hfz106_11 := q_.f11; clear q_
            go_wp2
            go_ret
            exact ⟨by first | rfl | (simp [errW_none, errW_some] <;> rfl) | (simp [*, errW_none, errW_some] <;> rfl), by repeat (first | (with_reducible first | exact HB.out | apply below_alloc | apply pw_below_drewN | apply below_drew1 | refine below_set ?_ GE116.out | refine below_set ?_ GE117.out) | exact HB.out)⟩
          ·rw [if_neg c98] at H
           have c98b0 : decide (0 ≤ a0_10) = false := decide_eq_false c98
           clear c98
           obtain rfl := Option.some.inj H
           have hnb107 := NB116_117.out
           have hnc107 := NB117_116.out
           have q_ := cells12 BK116.out; have hcz108_0 := q_.c0; have hcz108_1 := q_.c1; have hcz108_2 := q_.c2; have hcz108_3 := q_.c3; have hcz108_4 := q_.c4; have hcz108_5 := q_.c5; have hcz108_6 := q_.c6; have hcz108_7 := q_.c7; have hcz108_8 := q_.c8; have hcz108_9 := q_.c9; have hcz108_10 := q_.c10; have hcz108_11 := q_.c11; have hfz108_0 := q_.f0; have hfz108_1 := q_.f1; have hfz108_2 := q_.f2; have hfz108_3 := q_.f3; have hfz108_4 := q_.f4; have hfz108_5 := q_.f5; have hfz108_6 := q_.f6; have hfz108_7 := q_.f7; have hfz108_8 := q_.f8; have hfz108_9 := q_.f9; have hfz108_10 := q_.f10; have hfz108_11 := q_.f11; clear q_
           go_wp2
           go_ret
           exact ⟨by first | rfl | (simp [errW_none, errW_some] <;> rfl) | (simp [*, errW_none, errW_some] <;> rfl), by repeat (first | (with_reducible first | exact HB.out | apply below_alloc | apply pw_below_drewN | apply below_drew1 | refine below_set ?_ GE116.out | refine below_set ?_ GE117.out) | exact HB.out)⟩
         ·replace c97 := Bool.eq_false_iff.mpr c97
          subst c97
          have H1 : (some false) = some r := by rw [if_neg (show ¬ (false = true) by decide)] at H; exact H
          clear H
          have H := H1
          clear H1
          obtain rfl := Option.some.inj H
          go_wp2
          go_ret
          exact ⟨by first | rfl | (simp [errW_none, errW_some] <;> rfl) | (simp [*, errW_none, errW_some] <;> rfl), by repeat (first | (with_reducible first | exact HB.out | apply below_alloc | apply pw_below_drewN | apply below_drew1 | refine below_set ?_ GE116.out | refine below_set ?_ GE117.out) | exact HB.out)⟩

end Go.Proofs.Ythcndfnmgggblaa.P
