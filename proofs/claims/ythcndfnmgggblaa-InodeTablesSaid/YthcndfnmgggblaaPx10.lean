-- PRINTED by print.py (a twelfth state) out of the translation. Not trusted: Lean checks it.
import Derived.Test.YthcndfnmgggblaaPx0
import Derived.Test.YthcndfnmgggblaaPx8
import Derived.Test.YthcndfnmgggblaaPx9
import Derived.Test.YthcndfnmgggblaaHand
import Derived.Test.YthcndfnmgggblaaHandInode
import Derived.Test.YthcndfnmgggblaaCells
namespace Go.Proofs.Ythcndfnmgggblaa.P
open Go.RowKit Go.Proofs.YthcndfnmgggblaaW.PrintWords Go.Proofs.YthcndfnmgggblaaW.PrintLast Go.Proofs.YthcndfnmgggblaaW.PrintMore
attribute [local go_sem] max2_int min2_int max_two min_two max_three min_three max_four min_four   -- for this text's walks alone
set_option linter.unusedVariables false
set_option linter.unusedSimpArgs false

/-! ### leveeref07_Get: function 10 -/
def leveeref07_Get.l0 : Nat → List Int → Int → Int → Int → Int → Int → Int → Int → Int → Int → Int → Int → Int → Int → Option (Int × Int × Int × Int × Int × Int × Int × Int × Int × Int × Int × Int × Int)
 | 0, _, _, _, _, _, _, _, _, _, _, _, _, _, _ => none
 | k + 1, x0, x5, x210000, x210001, x210002, x210003, x210004, x210005, x210006, x210007, x210008, x210009, x210010, x210011 => if x5 < 6 then (if 0 ≤ (wrap64 (16 + (wrap64 (2 * x5)))) then (if (wrap64 (16 + (wrap64 (2 * x5)))) ≤ (wrap64 (18 + (wrap64 (2 * x5)))) then (if (wrap64 (18 + (wrap64 (2 * x5)))) ≤ (x0.length : Int) then ((leveeref01_Get.f k ((x0.take ((wrap64 (18 + (wrap64 (2 * x5)))) : Int).toNat).drop ((wrap64 (16 + (wrap64 (2 * x5)))) : Int).toNat)).bind fun t211 => (if x5 = (0 : Int) then (leveeref07_Get.l0 k x0 (wrap64 (x5 + 1)) x210000 x210001 x210002 x210003 (wrap64 (t211)) x210005 x210006 x210007 x210008 x210009 x210010 x210011) else (if x5 = (1 : Int) then (leveeref07_Get.l0 k x0 (wrap64 (x5 + 1)) x210000 x210001 x210002 x210003 x210004 (wrap64 (t211)) x210006 x210007 x210008 x210009 x210010 x210011) else (if x5 = (2 : Int) then (leveeref07_Get.l0 k x0 (wrap64 (x5 + 1)) x210000 x210001 x210002 x210003 x210004 x210005 (wrap64 (t211)) x210007 x210008 x210009 x210010 x210011) else (if x5 = (3 : Int) then (leveeref07_Get.l0 k x0 (wrap64 (x5 + 1)) x210000 x210001 x210002 x210003 x210004 x210005 x210006 (wrap64 (t211)) x210008 x210009 x210010 x210011) else (if x5 = (4 : Int) then (leveeref07_Get.l0 k x0 (wrap64 (x5 + 1)) x210000 x210001 x210002 x210003 x210004 x210005 x210006 x210007 (wrap64 (t211)) x210009 x210010 x210011) else (if x5 = (5 : Int) then (leveeref07_Get.l0 k x0 (wrap64 (x5 + 1)) x210000 x210001 x210002 x210003 x210004 x210005 x210006 x210007 x210008 (wrap64 (t211)) x210010 x210011) else (none)))))))) else (none)) else (none)) else (none)) else (if 28 ≤ 30 then (if 30 ≤ (x0.length : Int) then ((leveeref01_Get.f k ((x0.take 30).drop 28)).bind fun t213 => (if 30 ≤ 32 then (if 32 ≤ (x0.length : Int) then ((leveeref01_Get.f k ((x0.take 32).drop 30)).bind fun t215 => ((leveeref07_Put.f k x210000 x210001 x210002 x210003 x210004 x210005 x210006 x210007 x210008 x210009 (wrap64 (t213)) (wrap64 (t215))).bind fun bt216 => (if bt216.2 = 0 then (if (strOfNums bt216.1).toList = (strOfNums x0).toList then (some (x210000, x210001, x210002, x210003, x210004, x210005, x210006, x210007, x210008, x210009, wrap64 (t213), wrap64 (t215), 0)) else (some (0, 0, 0, 0, 0, 0, 0, 0, 0, 0, 0, 0, 8))) else (some (0, 0, 0, 0, 0, 0, 0, 0, 0, 0, 0, 0, 8))))) else (none)) else (none))) else (none)) else (none))
def leveeref07_Get.f (k : Nat) (l0 : List Int) : Option (Int × Int × Int × Int × Int × Int × Int × Int × Int × Int × Int × Int × Int) := if (l0.length : Int) = 64 then (if 0 < (l0.length : Int) then (if 2 ≤ 4 then (if 4 ≤ (l0.length : Int) then ((leveeref01_Get.f k ((l0.take 4).drop 2)).bind fun t204 => (if 4 ≤ 8 then (if 8 ≤ (l0.length : Int) then ((leveeref01_Get.f k ((l0.take 8).drop 4)).bind fun t206 => (if 8 ≤ 16 then (if 16 ≤ (l0.length : Int) then ((leveeref01_Get.f k ((l0.take 16).drop 8)).bind fun t208 => (leveeref07_Get.l0 k l0 0 (wrap64 (rd l0 0)) (wrap64 (t204)) (wrap64 (t206)) (wrap64 (t208)) 0 0 0 0 0 0 0 0)) else (none)) else (none))) else (none)) else (none))) else (none)) else (none)) else (none)) else (some (0, 0, 0, 0, 0, 0, 0, 0, 0, 0, 0, 0, 4))
theorem leveeref07_Get.mono_l : ∀ k, (∀ y0 y1 y2 y3 y4 y5 y6 y7 y8 y9 y10 y11 y12 y13, LeO (leveeref07_Get.l0 k y0 y1 y2 y3 y4 y5 y6 y7 y8 y9 y10 y11 y12 y13) (leveeref07_Get.l0 (k + 1) y0 y1 y2 y3 y4 y5 y6 y7 y8 y9 y10 y11 y12 y13))
 | 0 => fun _ _ _ _ _ _ _ _ _ _ _ _ _ _ r h => by simp [leveeref07_Get.l0] at h
 | k + 1 => by
  have ih0 := leveeref07_Get.mono_l k
  ·intro y0 y1 y2 y3 y4 y5 y6 y7 y8 y9 y10 y11 y12 y13
   unfold leveeref07_Get.l0
   repeat' first
   | (with_reducible exact ih0 _ _ _ _ _ _ _ _ _ _ _ _ _ _)
   | (with_reducible exact leveeref01_Get.mono _ _)
   | (with_reducible exact leveeref07_Put.mono _ _ _ _ _ _ _ _ _ _ _ _ _)
   | (with_reducible exact LeO.refl _)
   | (with_reducible exact LeO.none _)
   | (with_reducible refine LeO.ite ?_ ?_)
   | (with_reducible refine LeO.bind ?_ (fun _ => ?_))
   | exact ih0 _ _ _ _ _ _ _ _ _ _ _ _ _ _
   | exact leveeref01_Get.mono _ _
   | exact leveeref07_Put.mono _ _ _ _ _ _ _ _ _ _ _ _ _
   | exact LeO.none _
   | refine LeO.ite ?_ ?_
   | refine LeO.bind ?_ (fun _ => ?_)
theorem leveeref07_Get.mono : ∀ a0 k, LeO (leveeref07_Get.f k a0) (leveeref07_Get.f (k + 1) a0) := by
 intro a0 k
 have ih0 := leveeref07_Get.mono_l k
 unfold leveeref07_Get.f
 repeat' first
   | (with_reducible exact ih0 _ _ _ _ _ _ _ _ _ _ _ _ _ _)
   | (with_reducible exact leveeref01_Get.mono _ _)
   | (with_reducible exact leveeref07_Put.mono _ _ _ _ _ _ _ _ _ _ _ _ _)
   | (with_reducible exact LeO.refl _)
   | (with_reducible exact LeO.none _)
   | (with_reducible refine LeO.ite ?_ ?_)
   | (with_reducible refine LeO.bind ?_ (fun _ => ?_))
   | exact ih0 _ _ _ _ _ _ _ _ _ _ _ _ _ _
   | exact leveeref01_Get.mono _ _
   | exact leveeref07_Put.mono _ _ _ _ _ _ _ _ _ _ _ _ _
   | exact LeO.none _
   | refine LeO.ite ?_ ?_
   | refine LeO.bind ?_ (fun _ => ?_)
def leveeref07_Get.T3 : Bool × List (List Nat × List Nat) := (true, [([], []), ([0], [0]), ([1], [1]), ([2], [2]), ([], []), ([4], [4]), ([5], [5]), ([6], [6]), ([], []), ([8], [8]), ([9, 6], [9]), ([10], [10]), ([], []), ([12], [12]), ([13, 10], [13]), ([14], [14]), ([3, 7, 11, 15], [3, 7, 11, 15]), ([], []), ([17, 16, 14, 0, 1, 2, 3, 4, 5, 6, 7, 8, 9, 10, 11, 12, 13, 14, 15, 16, 17], [16, 17])])
def leveeref07_Get.B3 : List Nat := [0, 1, 3, 7, 0, 16, 48, 112, 0, 256, 880, 1904, 0, 4096, 14192, 30576, 65535, 0, 262143]
theorem leveeref07_Get.tab3 : rtab .any (opsOf Try.f10 3) = leveeref07_Get.T3 := by kernel_rfl
theorem leveeref07_Get.bits3 : waitsOk leveeref07_Get.T3.2 leveeref07_Get.B3 = true := by kernel_rfl
set_option maxHeartbeats 8000000 in
set_option maxRecDepth 100000 in
theorem leveeref07_Get.calls (k : Nat) (A0 : Option Addr) (c0 : Nat) (l0 : List Int) (r1 : Int) (r2 : Int) (r3 : Int) (r4 : Int) (r5 : Int) (r6 : Int) (r7 : Int) (r8 : Int) (r9 : Int) (r10 : Int) (r11 : Int) (r12 : Int) (r13 : Int) (w : World) (hr0 : Kd.C (Kd.int .u8) w A0 l0.length l0) (hc0 : l0.length ≤ c0) (h : leveeref07_Get.f k l0 = some (r1, r2, r3, r4, r5, r6, r7, r8, r9, r10, r11, r12, r13)) :
  Calls Try.prog 10 #[.slice A0 l0.length c0] w fun e w' => e = .returned (.tuple #[.agg #[.int .i64 r1, .int .i64 r2, .int .i64 r3, .int .i64 r4, .int .i64 r5, .int .i64 r6, .int .i64 r7, .int .i64 r8, .int .i64 r9, .int .i64 r10, .int .i64 r11, .int .i64 r12], .int .i64 r13]) ∧ Below w.heap.size w w' := by
 have hu24 := Try.underlying24
 have HR0 := Aside0.mk hr0
 have HC0 := Aside0.mk hc0
 clear hr0 hc0
 have HB := Aside0.mk (Below.refl w.heap.size w)
 have H : (if (l0.length : Int) = 64 then (if 0 < (l0.length : Int) then (if 2 ≤ 4 then (if 4 ≤ (l0.length : Int) then ((leveeref01_Get.f k ((l0.take 4).drop 2)).bind fun t204 => (if 4 ≤ 8 then (if 8 ≤ (l0.length : Int) then ((leveeref01_Get.f k ((l0.take 8).drop 4)).bind fun t206 => (if 8 ≤ 16 then (if 16 ≤ (l0.length : Int) then ((leveeref01_Get.f k ((l0.take 16).drop 8)).bind fun t208 => (leveeref07_Get.l0 k l0 0 (wrap64 (rd l0 0)) (wrap64 (t204)) (wrap64 (t206)) (wrap64 (t208)) 0 0 0 0 0 0 0 0)) else (none)) else (none))) else (none)) else (none))) else (none)) else (none)) else (none)) else (some (0, 0, 0, 0, 0, 0, 0, 0, 0, 0, 0, 0, 4))) = some (r1, r2, r3, r4, r5, r6, r7, r8, r9, r10, r11, r12, r13) := h
 clear h
 by_cases c2 : (l0.length : Int) = 64
 ·rw [if_pos c2] at H
  have c2b0 : ((l0.length : Int) == 64) = true := beq_iff_eq.mpr c2
  have c2b1 : ((l0.length : Int) != 64) = false := bne_eq_false_iff_eq.mpr c2
  clear c2
  by_cases c3 : 0 < (l0.length : Int)
  ·rw [if_pos c3] at H
   have c3b0 : decide (0 < (l0.length : Int)) = true := decide_eq_true c3
   have c3b1 : decide (0 < l0.length) = true := decide_eq_true (by omega)
   clear c3
   by_cases c4 : 2 ≤ 4
   ·rw [if_pos c4] at H
    have c4b0 := eq_true c4
    have c4b1 : decide (2 ≤ 4) = true := decide_eq_true c4
    clear c4
    by_cases c5 : 4 ≤ (l0.length : Int)
    ·rw [if_pos c5] at H
     have c5b0 := eq_true c5
     have c5b1 : decide (4 ≤ (l0.length : Int)) = true := decide_eq_true c5
     clear c5
     replace H := Option.bind_eq_some_iff.mp H
     obtain ⟨t204, A60, H⟩ := H
     replace H : (if 4 ≤ 8 then (if 8 ≤ (l0.length : Int) then ((leveeref01_Get.f k ((l0.take 8).drop 4)).bind fun t206 => (if 8 ≤ 16 then (if 16 ≤ (l0.length : Int) then ((leveeref01_Get.f k ((l0.take 16).drop 8)).bind fun t208 => (leveeref07_Get.l0 k l0 0 (wrap64 (rd l0 0)) (wrap64 (t204)) (wrap64 (t206)) (wrap64 (t208)) 0 0 0 0 0 0 0 0)) else (none)) else (none))) else (none)) else (none)) = some (r1, r2, r3, r4, r5, r6, r7, r8, r9, r10, r11, r12, r13) := H
     have A6 := Aside0.mk A60
     clear A60
     by_cases c7 : 4 ≤ 8
     ·rw [if_pos c7] at H
      have c7b0 := eq_true c7
      have c7b1 : decide (4 ≤ 8) = true := decide_eq_true c7
      clear c7
      by_cases c8 : 8 ≤ (l0.length : Int)
      ·rw [if_pos c8] at H
       have c8b0 := eq_true c8
       have c8b1 : decide (8 ≤ (l0.length : Int)) = true := decide_eq_true c8
       clear c8
       replace H := Option.bind_eq_some_iff.mp H
       obtain ⟨t206, A90, H⟩ := H
       replace H : (if 8 ≤ 16 then (if 16 ≤ (l0.length : Int) then ((leveeref01_Get.f k ((l0.take 16).drop 8)).bind fun t208 => (leveeref07_Get.l0 k l0 0 (wrap64 (rd l0 0)) (wrap64 (t204)) (wrap64 (t206)) (wrap64 (t208)) 0 0 0 0 0 0 0 0)) else (none)) else (none)) = some (r1, r2, r3, r4, r5, r6, r7, r8, r9, r10, r11, r12, r13) := H
       have A9 := Aside0.mk A90
       clear A90
       by_cases c10 : 8 ≤ 16
       ·rw [if_pos c10] at H
        have c10b0 := eq_true c10
        have c10b1 : decide (8 ≤ 16) = true := decide_eq_true c10
        clear c10
        by_cases c11 : 16 ≤ (l0.length : Int)
        ·rw [if_pos c11] at H
         have c11b0 := eq_true c11
         have c11b1 : decide (16 ≤ (l0.length : Int)) = true := decide_eq_true c11
         clear c11
         replace H := Option.bind_eq_some_iff.mp H
         obtain ⟨t208, A120, H⟩ := H
         replace H : (leveeref07_Get.l0 k l0 0 (wrap64 (rd l0 0)) (wrap64 (t204)) (wrap64 (t206)) (wrap64 (t208)) 0 0 0 0 0 0 0 0) = some (r1, r2, r3, r4, r5, r6, r7, r8, r9, r10, r11, r12, r13) := H
         have A12 := Aside0.mk A120
         clear A120
         have H' := Aside0.mk H
         clear H
         go_enter Try.func10, Try.ntmps10
         try go_wp2_with (first | ((with_reducible refine gate_dst (N := 2) rfl ?_); refine box_event ?hg (N := 2) ?hd (cs := #[.int .i64 0, .int .i64 0, .int .i64 0, .int .i64 0, .int .i64 0, .int .i64 0, .int .i64 0, .int .i64 0, .int .i64 0, .int .i64 0, .int .i64 0, .int .i64 0]) (t := 24) ?hr ?_; (case hd => rfl); (case hg => rfl); (case hr => first | (go_simp; done) | (go_simp; rfl)); intro gb201 hg w13 hbox hb; have n0_ := Aside0.mk (below_step (by repeat (first | (with_reducible first | exact HB.out | apply below_alloc | apply pw_below_drewN | apply below_drew1) | exact HB.out)) hb); have n1_ := Aside0.mk (hbox); have n2_ := Aside0.mk ((by rw [hg]; exact (below_size (by repeat (first | (with_reducible first | exact HB.out | apply below_alloc | apply pw_below_drewN | apply below_drew1) | exact HB.out))) : w.heap.size ≤ gb201)); have n3_ := Aside0.mk ((by rw [hg]; exact (below_size (by repeat (first | (with_reducible first | exact HB.out | apply below_alloc | apply pw_below_drewN | apply below_drew1) | exact HB.out))) : w.heap.size ≤ gb201)); clear HB; have HB := n0_; have BK201 := n1_; have GW201 := n2_; have GE201 := n3_; clear n0_ n1_ n2_ n3_; clear hb hbox hg))
         have n0_ := Aside0.mk (blk_drew BK201.out)
         have n1_ := Aside0.mk (below_drew1 HB.out)
         clear BK201
         clear HB
         have BK201 := n0_
         have HB := n1_
         clear n0_ n1_
         have p202 : 0 ≤ (0 : Int) := (by omega)
         have q202 : 0 < (l0.length : Int) := of_decide_eq_true (by first | (with_reducible assumption) | assumption)
         obtain ⟨ad202, e202, hx202_0⟩ := Kd.at_int HR0.out 0 p202 q202
         have hw202_0 := hx202_0
         (try rw [show ((0 : Int)).toNat = 0 from rfl] at hw202_0)
         (try rw [show 0 * 1 = 0 from rfl] at hw202_0)
         (try rw [Addr.add_zero'] at hw202_0)
         cases e202
         have qi202 : (0 < l0.length) = True := eq_true (by omega)
         (try rw [show ((0 : Int)).toNat = 0 from rfl] at hx202_0)
         (try rw [Addr.add_zero'] at hx202_0)
         replace hx202_0 := (HB.out.cell (World.block_lt_of_cell? w _ hx202_0)).trans hx202_0
         replace p202 := eq_true p202
         replace q202 := eq_true q202
         obtain ⟨i015, hi015, _, hsz15, _⟩ := info_parts info5
         obtain ⟨A15, hcut15, hA15, hC15⟩ := print_mid_of (P := Try.prog) (Value.int .u8) 0 25 5 .i64 .i64 Try.underlying25 hi015 hsz15 (some ad202) c0 l0 2 4 (by omega) (by first | omega | exact of_decide_eq_true (by first | (with_reducible assumption) | assumption)) (of_decide_eq_true (by first | (with_reducible assumption) | assumption)) HC0.out
         have HR203 := Aside0.mk (Kd.C_of_reads (h1 := fun _ => rfl) (hA15 _ (Kd.reads_of_C HR0.out)))
         have HC203 := Aside0.mk hC15
         clear hA15 hC15 hi015 hsz15
         obtain ⟨i016, hi016, _, hsz16, _⟩ := info_parts info5
         obtain ⟨A16, hcut16, hA16, hC16⟩ := print_mid_of (P := Try.prog) (Value.int .u8) 0 25 5 .i64 .i64 Try.underlying25 hi016 hsz16 (some ad202) c0 l0 4 8 (by omega) (by first | omega | exact of_decide_eq_true (by first | (with_reducible assumption) | assumption)) (of_decide_eq_true (by first | (with_reducible assumption) | assumption)) HC0.out
         have HR205 := Aside0.mk (Kd.C_of_reads (h1 := fun _ => rfl) (hA16 _ (Kd.reads_of_C HR0.out)))
         have HC205 := Aside0.mk hC16
         clear hA16 hC16 hi016 hsz16
         obtain ⟨i017, hi017, _, hsz17, _⟩ := info_parts info5
         obtain ⟨A17, hcut17, hA17, hC17⟩ := print_mid_of (P := Try.prog) (Value.int .u8) 0 25 5 .i64 .i64 Try.underlying25 hi017 hsz17 (some ad202) c0 l0 8 16 (by omega) (by first | omega | exact of_decide_eq_true (by first | (with_reducible assumption) | assumption)) (of_decide_eq_true (by first | (with_reducible assumption) | assumption)) HC0.out
         have HR207 := Aside0.mk (Kd.C_of_reads (h1 := fun _ => rfl) (hA17 _ (Kd.reads_of_C HR0.out)))
         have HC207 := Aside0.mk hC17
         clear hA17 hC17 hi017 hsz17
         refine start_ (n := 19) (S := fun w' => w'.cell? ad202 = some (.int .u8 (rd l0 0))) (ds := []) #[false, false, false, false, false, false, false, false, false, false, false, false, false, false, false, false, false, false, false] (by kernel_rfl) rfl rfl (((HB.out.cell (World.block_lt_of_cell? w _ hw202_0)).trans hw202_0)) (fun hHeld => ?_); refine with_tabW leveeref07_Get.tab3 leveeref07_Get.bits3 (fun HT_ HW_ => ?_)
         generalize w13.drew = w14 at BK201 HB HR203 HR205 HR207 hx202_0 hHeld ⊢
         refine pure_ (i := 0) (N := some 12) (v := ?_) (a' := ?_) #[true, false, false, false, false, false, false, false, false, false, false, false, false, false, false, false, false, false, false] rfl rfl (any_of HT_.out (by kernel_rfl)) (fun _ _ _ h => h) (Or.inl ⟨by rfl, ?_⟩) ?_ ?_
         rotate_left
         ·intro w'
          go_simp
          with_reducible rfl
         rotate_left
         ·simp only [Act.put, List.setIfInBounds_toArray, List.set_cons_zero, List.set_cons_succ, i64_w, i32_w]
          rfl
         refine pure_ (i := 1) (N := some 13) (v := ?_) (a' := ?_) #[true, true, false, false, false, false, false, false, false, false, false, false, false, false, false, false, false, false, false] rfl rfl (any_of HT_.out (by kernel_rfl)) (fun _ _ _ h => h) (Or.inl ⟨by rfl, ?_⟩) ?_ ?_
         rotate_left
         ·intro w'
          go_simp
          with_reducible rfl
         rotate_left
         ·simp only [Act.put, List.setIfInBounds_toArray, List.set_cons_zero, List.set_cons_succ, i64_w, i32_w]
          rfl
         refine pure_ (i := 4) (N := some 16) (v := ?_) (a' := ?_) #[true, true, false, false, true, false, false, false, false, false, false, false, false, false, false, false, false, false, false] rfl rfl (any_of HT_.out (by kernel_rfl)) (fun _ _ _ h => h) (Or.inl ⟨by rfl, ?_⟩) ?_ ?_
         rotate_left
         ·intro w'
          go_simp
          with_reducible rfl
         rotate_left
         ·simp only [Act.put, List.setIfInBounds_toArray, List.set_cons_zero, List.set_cons_succ, i64_w, i32_w]
          rfl
         refine pure_ (i := 5) (N := some 17) (v := ?_) (a' := ?_) #[true, true, false, false, true, true, false, false, false, false, false, false, false, false, false, false, false, false, false] rfl rfl (any_of HT_.out (by kernel_rfl)) (fun _ _ _ h => h) (Or.inl ⟨by rfl, ?_⟩) ?_ ?_
         rotate_left
         ·intro w'
          go_simp
          with_reducible rfl
         rotate_left
         ·simp only [Act.put, List.setIfInBounds_toArray, List.set_cons_zero, List.set_cons_succ, i64_w, i32_w]
          rfl
         refine pure_ (i := 8) (N := some 20) (v := ?_) (a' := ?_) #[true, true, false, false, true, true, false, false, true, false, false, false, false, false, false, false, false, false, false] rfl rfl (any_of HT_.out (by kernel_rfl)) (fun _ _ _ h => h) (Or.inl ⟨by rfl, ?_⟩) ?_ ?_
         rotate_left
         ·intro w'
          go_simp
          with_reducible rfl
         rotate_left
         ·simp only [Act.put, List.setIfInBounds_toArray, List.set_cons_zero, List.set_cons_succ, i64_w, i32_w]
          rfl
         refine pure_ (i := 9) (N := some 21) (v := ?_) (a' := ?_) #[true, true, false, false, true, true, false, false, true, true, false, false, false, false, false, false, false, false, false] rfl rfl (any_of HT_.out (by kernel_rfl)) (fun _ _ _ h => h) (Or.inl ⟨by rfl, ?_⟩) ?_ ?_
         rotate_left
         ·intro w'
          go_simp
          with_reducible rfl
         rotate_left
         ·simp only [Act.put, List.setIfInBounds_toArray, List.set_cons_zero, List.set_cons_succ, i64_w, i32_w]
          rfl
         refine pure_ (i := 12) (N := some 24) (v := ?_) (a' := ?_) #[true, true, false, false, true, true, false, false, true, true, false, false, true, false, false, false, false, false, false] rfl rfl (any_of HT_.out (by kernel_rfl)) (fun _ _ _ h => h) (Or.inl ⟨by rfl, ?_⟩) ?_ ?_
         rotate_left
         ·intro w'
          go_simp
          with_reducible rfl
         rotate_left
         ·simp only [Act.put, List.setIfInBounds_toArray, List.set_cons_zero, List.set_cons_succ, i64_w, i32_w]
          rfl
         refine pure_ (i := 13) (N := some 25) (v := ?_) (a' := ?_) #[true, true, false, false, true, true, false, false, true, true, false, false, true, true, false, false, false, false, false] rfl rfl (any_of HT_.out (by kernel_rfl)) (fun _ _ _ h => h) (Or.inl ⟨by rfl, ?_⟩) ?_ ?_
         rotate_left
         ·intro w'
          go_simp
          with_reducible rfl
         rotate_left
         ·simp only [Act.put, List.setIfInBounds_toArray, List.set_cons_zero, List.set_cons_succ, i64_w, i32_w]
          rfl
         refine take_ (i := 2) (N := some 14) (v := ?_) (a' := ?_) #[true, true, true, false, true, true, false, false, true, true, false, false, true, true, false, false, false, false, false] rfl rfl (take_ofW HT_.out HW_.out (by kernel_rfl)) (fun _ _ _ h => h) (Or.inl ⟨by rfl, ?_⟩) hHeld ?_ ?_
         rotate_left
         ·intro w' s0
          go_simp
          with_reducible rfl
         rotate_left
         ·simp only [Act.put, List.setIfInBounds_toArray, List.set_cons_zero, List.set_cons_succ, i64_w, i32_w]
          rfl
         refine pure_ (i := 3) (N := some 15) (v := ?_) (a' := ?_) #[true, true, true, true, true, true, false, false, true, true, false, false, true, true, false, false, false, false, false] rfl rfl (any_of HT_.out (by kernel_rfl)) (fun _ _ _ h => h) (Or.inl ⟨by rfl, ?_⟩) ?_ ?_
         rotate_left
         ·intro w'
          go_simp
          with_reducible rfl
         rotate_left
         ·simp only [Act.put, List.setIfInBounds_toArray, List.set_cons_zero, List.set_cons_succ, i64_w, i32_w]
          rfl
         refine join_ (σ := Nat) 1 #[true, true, true, true, true, true, true, true, true, true, true, true, true, true, true, true, true, true, false] (fun s_ => [(18, .int .u64 t204), (22, .int .u64 t206), (26, .int .u64 t208), (4, .pointer (some ⟨s_, 0, none⟩)), (19, .int .i64 (wrap64 (t204))), (23, .int .i64 (wrap64 (t206))), (27, .int .i64 (wrap64 (t208))), (28, .agg #[.int .i64 (wrap64 (rd l0 0)), .int .i64 (wrap64 (t204)), .int .i64 (wrap64 (t206)), .int .i64 (wrap64 (t208)), .int .i64 0, .int .i64 0, .int .i64 0, .int .i64 0, .int .i64 0, .int .i64 0, .int .i64 0, .int .i64 0])]) (fun s_ w' => (w'.cell? ad202 = some (.int .u8 (rd l0 0))) ∧ (w'.heap[gb201]? = some (.cells #[.int .i64 0, .int .i64 0, .int .i64 0, .int .i64 0, .int .i64 0, .int .i64 0, .int .i64 0, .int .i64 0, .int .i64 0, .int .i64 0, .int .i64 0, .int .i64 0] 24 (0, 0))) ∧ (w'.heap[s_]? = some (.cells #[.int .i64 0, .int .i64 0, .int .i64 0, .int .i64 0, .int .i64 0, .int .i64 0, .int .i64 0, .int .i64 0, .int .i64 0, .int .i64 0, .int .i64 0, .int .i64 0] 24 (0, 0))) ∧ (w.heap.size ≤ s_) ∧ (w.heap.size ≤ s_) ∧ (gb201 ≠ s_) ∧ (s_ ≠ gb201) ∧ (Below w.heap.size w w')) ?_ ?_
         rotate_left
         ·intro hCont
          refine two_ (i := 6) (j := 17) (Ni := some 18) (Nj := some 4) #[true, true, true, true, true, true, true, false, true, true, false, false, true, true, false, false, false, false, false] #[true, true, true, true, true, true, false, false, true, true, false, false, true, true, false, false, false, true, false] rfl rfl rfl rfl (two_of HT_.out (by kernel_rfl)) (by decide) (by decide) (fun K hK => ?_) (fun K hK => ?_)
          ·skip
           refine goes_ Try.func32 (by kernel_rfl) rfl #[.slice A15 ((l0.take 4).drop 2).length (c0 - 2)] (by rfl) rfl rfl (by (try simp only [List.map_toArray, List.map_cons, List.map_nil]); first | done | (rw [show ((l0.take 4).drop 2).length = (4 - 2) from (by rw [List.length_drop, List.length_take]; have h_ : (4 : Int) ≤ (l0.length : Int) := of_decide_eq_true (by first | (with_reducible assumption) | assumption); omega)] <;> rfl) | rfl | (simp only [List.length_drop, List.length_take]; rfl)) ?_
           with_reducible refine (leveeref01_Get.calls k _ _ ((l0.take 4).drop 2) t204 _ ?side1 ?side2 A6.out).mono ?_
           (case side1 => repeat (first | exact (Kd.C_below HR203.out HB.out) | (with_reducible refine Kd.C_alloc ?_ _) | (with_reducible refine Kd.C_drewN ?_ _) | (with_reducible refine Kd.C_drew ?_)))
           (case side2 => exact HC203.out)
           rintro e w' ⟨rfl, ⟨nd, rfl⟩⟩
           refine ⟨_, rfl, ?_⟩
           refine hK.out _ _ (((HB.out.cell (World.block_lt_of_cell? w _ hw202_0)).trans hw202_0)) (fun hHeld => ?_)
           clear hK K
           refine norm_ (a' := ?_) ?_ ?_
           rotate_left
           ·show Act.put _ (some 18) _ = _
            simp only [Act.put, List.setIfInBounds_toArray, List.set_cons_zero, List.set_cons_succ, i64_w, i32_w]
            rfl
           refine pure_ (i := 7) (N := some 19) (v := ?_) (a' := ?_) #[true, true, true, true, true, true, true, true, true, true, false, false, true, true, false, false, false, false, false] rfl rfl (any_of HT_.out (by kernel_rfl)) (fun _ _ _ h => h) (Or.inl ⟨by rfl, ?_⟩) ?_ ?_
           rotate_left
           ·intro w'
            go_simp
            with_reducible rfl
           rotate_left
           ·simp only [Act.put, List.setIfInBounds_toArray, List.set_cons_zero, List.set_cons_succ, i64_w, i32_w]
            rfl
           refine two_ (i := 10) (j := 17) (Ni := some 22) (Nj := some 4) #[true, true, true, true, true, true, true, true, true, true, true, false, true, true, false, false, false, false, false] #[true, true, true, true, true, true, true, true, true, true, false, false, true, true, false, false, false, true, false] rfl rfl rfl rfl (two_of HT_.out (by kernel_rfl)) (by decide) (by decide) (fun K hK => ?_) (fun K hK => ?_)
           ·skip
            refine goes_ Try.func32 (by kernel_rfl) rfl #[.slice A16 ((l0.take 8).drop 4).length (c0 - 4)] (by rfl) rfl rfl (by (try simp only [List.map_toArray, List.map_cons, List.map_nil]); first | done | (rw [show ((l0.take 8).drop 4).length = (8 - 4) from (by rw [List.length_drop, List.length_take]; have h_ : (8 : Int) ≤ (l0.length : Int) := of_decide_eq_true (by first | (with_reducible assumption) | assumption); omega)] <;> rfl) | rfl | (simp only [List.length_drop, List.length_take]; rfl)) ?_
            with_reducible refine (leveeref01_Get.calls k _ _ ((l0.take 8).drop 4) t206 _ ?side1 ?side2 A9.out).mono ?_
            (case side1 => repeat (first | exact (Kd.C_below HR205.out (by repeat (first | (with_reducible first | exact HB.out | apply below_alloc | apply pw_below_drewN | apply below_drew1 | refine below_set ?_ GE201.out) | exact HB.out))) | (with_reducible refine Kd.C_alloc ?_ _) | (with_reducible refine Kd.C_drewN ?_ _) | (with_reducible refine Kd.C_drew ?_)))
            (case side2 => exact HC205.out)
            rintro e w' ⟨rfl, ⟨nd, rfl⟩⟩
            refine ⟨_, rfl, ?_⟩
            refine hK.out _ _ (((HB.out.cell (World.block_lt_of_cell? w _ hw202_0)).trans hw202_0)) (fun hHeld => ?_)
            clear hK K
            refine norm_ (a' := ?_) ?_ ?_
            rotate_left
            ·show Act.put _ (some 22) _ = _
             simp only [Act.put, List.setIfInBounds_toArray, List.set_cons_zero, List.set_cons_succ, i64_w, i32_w]
             rfl
            refine pure_ (i := 11) (N := some 23) (v := ?_) (a' := ?_) #[true, true, true, true, true, true, true, true, true, true, true, true, true, true, false, false, false, false, false] rfl rfl (any_of HT_.out (by kernel_rfl)) (fun _ _ _ h => h) (Or.inl ⟨by rfl, ?_⟩) ?_ ?_
            rotate_left
            ·intro w'
             go_simp
             with_reducible rfl
            rotate_left
            ·simp only [Act.put, List.setIfInBounds_toArray, List.set_cons_zero, List.set_cons_succ, i64_w, i32_w]
             rfl
            refine two_ (i := 14) (j := 17) (Ni := some 26) (Nj := some 4) #[true, true, true, true, true, true, true, true, true, true, true, true, true, true, true, false, false, false, false] #[true, true, true, true, true, true, true, true, true, true, true, true, true, true, false, false, false, true, false] rfl rfl rfl rfl (two_of HT_.out (by kernel_rfl)) (by decide) (by decide) (fun K hK => ?_) (fun K hK => ?_)
            ·skip
             refine goes_ Try.func32 (by kernel_rfl) rfl #[.slice A17 ((l0.take 16).drop 8).length (c0 - 8)] (by rfl) rfl rfl (by (try simp only [List.map_toArray, List.map_cons, List.map_nil]); first | done | (rw [show ((l0.take 16).drop 8).length = (16 - 8) from (by rw [List.length_drop, List.length_take]; have h_ : (16 : Int) ≤ (l0.length : Int) := of_decide_eq_true (by first | (with_reducible assumption) | assumption); omega)] <;> rfl) | rfl | (simp only [List.length_drop, List.length_take]; rfl)) ?_
             with_reducible refine (leveeref01_Get.calls k _ _ ((l0.take 16).drop 8) t208 _ ?side1 ?side2 A12.out).mono ?_
             (case side1 => repeat (first | exact (Kd.C_below HR207.out (by repeat (first | (with_reducible first | exact HB.out | apply below_alloc | apply pw_below_drewN | apply below_drew1 | refine below_set ?_ GE201.out) | exact HB.out))) | (with_reducible refine Kd.C_alloc ?_ _) | (with_reducible refine Kd.C_drewN ?_ _) | (with_reducible refine Kd.C_drew ?_)))
             (case side2 => exact HC207.out)
             rintro e w' ⟨rfl, ⟨nd, rfl⟩⟩
             refine ⟨_, rfl, ?_⟩
             refine hK.out _ _ (((HB.out.cell (World.block_lt_of_cell? w _ hw202_0)).trans hw202_0)) (fun hHeld => ?_)
             clear hK K
             refine norm_ (a' := ?_) ?_ ?_
             rotate_left
             ·show Act.put _ (some 26) _ = _
              simp only [Act.put, List.setIfInBounds_toArray, List.set_cons_zero, List.set_cons_succ, i64_w, i32_w]
              rfl
             refine pure_ (i := 15) (N := some 27) (v := ?_) (a' := ?_) #[true, true, true, true, true, true, true, true, true, true, true, true, true, true, true, true, false, false, false] rfl rfl (any_of HT_.out (by kernel_rfl)) (fun _ _ _ h => h) (Or.inl ⟨by rfl, ?_⟩) ?_ ?_
             rotate_left
             ·intro w'
              go_simp
              with_reducible rfl
             rotate_left
             ·simp only [Act.put, List.setIfInBounds_toArray, List.set_cons_zero, List.set_cons_succ, i64_w, i32_w]
              rfl
             refine pure_ (i := 16) (N := some 28) (v := ?_) (a' := ?_) #[true, true, true, true, true, true, true, true, true, true, true, true, true, true, true, true, true, false, false] rfl rfl (any_of HT_.out (by kernel_rfl)) (fun _ _ _ h => h) (Or.inl ⟨by rfl, ?_⟩) ?_ ?_
             rotate_left
             ·intro w'
              go_simp
              with_reducible rfl
             rotate_left
             ·simp only [Act.put, List.setIfInBounds_toArray, List.set_cons_zero, List.set_cons_succ, i64_w, i32_w]
              rfl
             refine one_ (i := 17) (N := some 4) #[true, true, true, true, true, true, true, true, true, true, true, true, true, true, true, true, true, true, false] rfl rfl (one_of HT_.out (by kernel_rfl)) (by decide) (fun K hK => ?_)
             refine box_step ?hg (N := 4) ?hd (cs := #[.int .i64 0, .int .i64 0, .int .i64 0, .int .i64 0, .int .i64 0, .int .i64 0, .int .i64 0, .int .i64 0, .int .i64 0, .int .i64 0, .int .i64 0, .int .i64 0]) (t := 24) ?hr ?_; (case hd => rfl); (case hg => rfl); (case hr => first | (go_simp; done) | (go_simp; rfl))
             intro gb209 hg w18 hbox hb
             have n0_ := Aside0.mk (blk_below (g := gb201) (o := .cells #[.int .i64 0, .int .i64 0, .int .i64 0, .int .i64 0, .int .i64 0, .int .i64 0, .int .i64 0, .int .i64 0, .int .i64 0, .int .i64 0, .int .i64 0, .int .i64 0] 24 (0, 0)) (by (with_reducible repeat (first | refine blk_drewN ?_ _ | refine blk_drew ?_ | refine blk_alloc ?_ _)); exact BK201.out) hb)
             have n1_ := Aside0.mk (below_step (by repeat (first | (with_reducible first | exact HB.out | apply below_alloc | apply pw_below_drewN | apply below_drew1 | refine below_set ?_ GE201.out) | exact HB.out)) hb)
             have n2_ := Aside0.mk (hbox)
             have n3_ := Aside0.mk ((by rw [hg]; exact (below_size (by repeat (first | (with_reducible first | exact HB.out | apply below_alloc | apply pw_below_drewN | apply below_drew1 | refine below_set ?_ GE201.out) | exact HB.out))) : w.heap.size ≤ gb209))
             have n4_ := Aside0.mk ((by rw [hg]; exact (below_size (by repeat (first | (with_reducible first | exact HB.out | apply below_alloc | apply pw_below_drewN | apply below_drew1 | refine below_set ?_ GE201.out) | exact HB.out))) : w.heap.size ≤ gb209))
             have n5_ := Aside0.mk ((by rw [hg]; exact Nat.ne_of_lt (blk_lt (g := gb201) (o := .cells #[.int .i64 0, .int .i64 0, .int .i64 0, .int .i64 0, .int .i64 0, .int .i64 0, .int .i64 0, .int .i64 0, .int .i64 0, .int .i64 0, .int .i64 0, .int .i64 0] 24 (0, 0)) (by (with_reducible repeat (first | refine blk_drewN ?_ _ | refine blk_drew ?_ | refine blk_alloc ?_ _)); exact BK201.out)) : gb201 ≠ gb209))
             have n6_ := Aside0.mk ((by rw [hg]; exact Nat.ne_of_gt (blk_lt (g := gb201) (o := .cells #[.int .i64 0, .int .i64 0, .int .i64 0, .int .i64 0, .int .i64 0, .int .i64 0, .int .i64 0, .int .i64 0, .int .i64 0, .int .i64 0, .int .i64 0, .int .i64 0] 24 (0, 0)) (by (with_reducible repeat (first | refine blk_drewN ?_ _ | refine blk_drew ?_ | refine blk_alloc ?_ _)); exact BK201.out)) : gb209 ≠ gb201))
             clear BK201
             clear HB
             have BK201 := n0_
             have HB := n1_
             have BK209 := n2_
             have GW209 := n3_
             have GE209 := n4_
             have NB201_209 := n5_
             have NB209_201 := n6_
             clear n0_ n1_ n2_ n3_ n4_ n5_ n6_
             clear hb hbox hg
             refine hK.out _ _ (((HB.out.cell (World.block_lt_of_cell? w _ hw202_0)).trans hw202_0)) (fun hHeld => ?_)
             clear hK K
             refine norm_ (a' := ?_) ?_ ?_
             rotate_left
             ·show Act.put _ (some 4) _ = _
              simp only [Act.put, List.setIfInBounds_toArray, List.set_cons_zero, List.set_cons_succ, i64_w, i32_w]
              rfl
             exact norm_ (by simp only [putAll, Act.put, List.setIfInBounds_toArray, List.set_cons_zero, List.set_cons_succ]) (hCont (gb209) _ ⟨hHeld, (by (with_reducible repeat (first | refine blk_drewN ?_ _ | refine blk_drew ?_ | refine blk_alloc ?_ _)); exact BK201.out), (by (with_reducible repeat (first | refine blk_drewN ?_ _ | refine blk_drew ?_ | refine blk_alloc ?_ _)); exact BK209.out), GW209.out, GE209.out, NB201_209.out, NB209_201.out, (by repeat (first | (with_reducible first | exact HB.out | apply below_alloc | apply pw_below_drewN | apply below_drew1 | refine below_set ?_ GE201.out | refine below_set ?_ GE209.out) | exact HB.out))⟩)
            ·skip
             refine box_step ?hg (N := 4) ?hd (cs := #[.int .i64 0, .int .i64 0, .int .i64 0, .int .i64 0, .int .i64 0, .int .i64 0, .int .i64 0, .int .i64 0, .int .i64 0, .int .i64 0, .int .i64 0, .int .i64 0]) (t := 24) ?hr ?_; (case hd => rfl); (case hg => rfl); (case hr => first | (go_simp; done) | (go_simp; rfl))
             intro gb209 hg w18 hbox hb
             have n0_ := Aside0.mk (blk_below (g := gb201) (o := .cells #[.int .i64 0, .int .i64 0, .int .i64 0, .int .i64 0, .int .i64 0, .int .i64 0, .int .i64 0, .int .i64 0, .int .i64 0, .int .i64 0, .int .i64 0, .int .i64 0] 24 (0, 0)) (by (with_reducible repeat (first | refine blk_drewN ?_ _ | refine blk_drew ?_ | refine blk_alloc ?_ _)); exact BK201.out) hb)
             have n1_ := Aside0.mk (below_step (by repeat (first | (with_reducible first | exact HB.out | apply below_alloc | apply pw_below_drewN | apply below_drew1 | refine below_set ?_ GE201.out) | exact HB.out)) hb)
             have n2_ := Aside0.mk (hbox)
             have n3_ := Aside0.mk ((by rw [hg]; exact (below_size (by repeat (first | (with_reducible first | exact HB.out | apply below_alloc | apply pw_below_drewN | apply below_drew1 | refine below_set ?_ GE201.out) | exact HB.out))) : w.heap.size ≤ gb209))
             have n4_ := Aside0.mk ((by rw [hg]; exact (below_size (by repeat (first | (with_reducible first | exact HB.out | apply below_alloc | apply pw_below_drewN | apply below_drew1 | refine below_set ?_ GE201.out) | exact HB.out))) : w.heap.size ≤ gb209))
             have n5_ := Aside0.mk ((by rw [hg]; exact Nat.ne_of_lt (blk_lt (g := gb201) (o := .cells #[.int .i64 0, .int .i64 0, .int .i64 0, .int .i64 0, .int .i64 0, .int .i64 0, .int .i64 0, .int .i64 0, .int .i64 0, .int .i64 0, .int .i64 0, .int .i64 0] 24 (0, 0)) (by (with_reducible repeat (first | refine blk_drewN ?_ _ | refine blk_drew ?_ | refine blk_alloc ?_ _)); exact BK201.out)) : gb201 ≠ gb209))
             have n6_ := Aside0.mk ((by rw [hg]; exact Nat.ne_of_gt (blk_lt (g := gb201) (o := .cells #[.int .i64 0, .int .i64 0, .int .i64 0, .int .i64 0, .int .i64 0, .int .i64 0, .int .i64 0, .int .i64 0, .int .i64 0, .int .i64 0, .int .i64 0, .int .i64 0] 24 (0, 0)) (by (with_reducible repeat (first | refine blk_drewN ?_ _ | refine blk_drew ?_ | refine blk_alloc ?_ _)); exact BK201.out)) : gb209 ≠ gb201))
             clear BK201
             clear HB
             have BK201 := n0_
             have HB := n1_
             have BK209 := n2_
             have GW209 := n3_
             have GE209 := n4_
             have NB201_209 := n5_
             have NB209_201 := n6_
             clear n0_ n1_ n2_ n3_ n4_ n5_ n6_
             clear hb hbox hg
             refine hK.out _ _ (((HB.out.cell (World.block_lt_of_cell? w _ hw202_0)).trans hw202_0)) (fun hHeld => ?_)
             clear hK K
             refine norm_ (a' := ?_) ?_ ?_
             rotate_left
             ·show Act.put _ (some 4) _ = _
              simp only [Act.put, List.setIfInBounds_toArray, List.set_cons_zero, List.set_cons_succ, i64_w, i32_w]
              rfl
             refine one_ (i := 14) (N := some 26) #[true, true, true, true, true, true, true, true, true, true, true, true, true, true, true, false, false, true, false] rfl rfl (one_of HT_.out (by kernel_rfl)) (by decide) (fun K hK => ?_)
             refine goes_ Try.func32 (by kernel_rfl) rfl #[.slice A17 ((l0.take 16).drop 8).length (c0 - 8)] (by rfl) rfl rfl (by (try simp only [List.map_toArray, List.map_cons, List.map_nil]); first | done | (rw [show ((l0.take 16).drop 8).length = (16 - 8) from (by rw [List.length_drop, List.length_take]; have h_ : (16 : Int) ≤ (l0.length : Int) := of_decide_eq_true (by first | (with_reducible assumption) | assumption); omega)] <;> rfl) | rfl | (simp only [List.length_drop, List.length_take]; rfl)) ?_
             with_reducible refine (leveeref01_Get.calls k _ _ ((l0.take 16).drop 8) t208 _ ?side1 ?side2 A12.out).mono ?_
             (case side1 => repeat (first | exact (Kd.C_below HR207.out HB.out) | (with_reducible refine Kd.C_alloc ?_ _) | (with_reducible refine Kd.C_drewN ?_ _) | (with_reducible refine Kd.C_drew ?_)))
             (case side2 => exact HC207.out)
             rintro e w' ⟨rfl, ⟨nd, rfl⟩⟩
             refine ⟨_, rfl, ?_⟩
             refine hK.out _ _ (((HB.out.cell (World.block_lt_of_cell? w _ hw202_0)).trans hw202_0)) (fun hHeld => ?_)
             clear hK K
             refine norm_ (a' := ?_) ?_ ?_
             rotate_left
             ·show Act.put _ (some 26) _ = _
              simp only [Act.put, List.setIfInBounds_toArray, List.set_cons_zero, List.set_cons_succ, i64_w, i32_w]
              rfl
             refine pure_ (i := 15) (N := some 27) (v := ?_) (a' := ?_) #[true, true, true, true, true, true, true, true, true, true, true, true, true, true, true, true, false, true, false] rfl rfl (any_of HT_.out (by kernel_rfl)) (fun _ _ _ h => h) (Or.inl ⟨by rfl, ?_⟩) ?_ ?_
             rotate_left
             ·intro w'
              go_simp
              with_reducible rfl
             rotate_left
             ·simp only [Act.put, List.setIfInBounds_toArray, List.set_cons_zero, List.set_cons_succ, i64_w, i32_w]
              rfl
             refine pure_ (i := 16) (N := some 28) (v := ?_) (a' := ?_) #[true, true, true, true, true, true, true, true, true, true, true, true, true, true, true, true, true, true, false] rfl rfl (any_of HT_.out (by kernel_rfl)) (fun _ _ _ h => h) (Or.inl ⟨by rfl, ?_⟩) ?_ ?_
             rotate_left
             ·intro w'
              go_simp
              with_reducible rfl
             rotate_left
             ·simp only [Act.put, List.setIfInBounds_toArray, List.set_cons_zero, List.set_cons_succ, i64_w, i32_w]
              rfl
             exact norm_ (by simp only [putAll, Act.put, List.setIfInBounds_toArray, List.set_cons_zero, List.set_cons_succ]) (hCont (gb209) _ ⟨hHeld, (by (with_reducible repeat (first | refine blk_drewN ?_ _ | refine blk_drew ?_ | refine blk_alloc ?_ _)); exact BK201.out), (by (with_reducible repeat (first | refine blk_drewN ?_ _ | refine blk_drew ?_ | refine blk_alloc ?_ _)); exact BK209.out), GW209.out, GE209.out, NB201_209.out, NB209_201.out, (by repeat (first | (with_reducible first | exact HB.out | apply below_alloc | apply pw_below_drewN | apply below_drew1 | refine below_set ?_ GE201.out | refine below_set ?_ GE209.out) | exact HB.out))⟩)
           ·skip
            refine box_step ?hg (N := 4) ?hd (cs := #[.int .i64 0, .int .i64 0, .int .i64 0, .int .i64 0, .int .i64 0, .int .i64 0, .int .i64 0, .int .i64 0, .int .i64 0, .int .i64 0, .int .i64 0, .int .i64 0]) (t := 24) ?hr ?_; (case hd => rfl); (case hg => rfl); (case hr => first | (go_simp; done) | (go_simp; rfl))
            intro gb209 hg w18 hbox hb
            have n0_ := Aside0.mk (blk_below (g := gb201) (o := .cells #[.int .i64 0, .int .i64 0, .int .i64 0, .int .i64 0, .int .i64 0, .int .i64 0, .int .i64 0, .int .i64 0, .int .i64 0, .int .i64 0, .int .i64 0, .int .i64 0] 24 (0, 0)) (by (with_reducible repeat (first | refine blk_drewN ?_ _ | refine blk_drew ?_ | refine blk_alloc ?_ _)); exact BK201.out) hb)
            have n1_ := Aside0.mk (below_step (by repeat (first | (with_reducible first | exact HB.out | apply below_alloc | apply pw_below_drewN | apply below_drew1 | refine below_set ?_ GE201.out) | exact HB.out)) hb)
            have n2_ := Aside0.mk (hbox)
            have n3_ := Aside0.mk ((by rw [hg]; exact (below_size (by repeat (first | (with_reducible first | exact HB.out | apply below_alloc | apply pw_below_drewN | apply below_drew1 | refine below_set ?_ GE201.out) | exact HB.out))) : w.heap.size ≤ gb209))
            have n4_ := Aside0.mk ((by rw [hg]; exact (below_size (by repeat (first | (with_reducible first | exact HB.out | apply below_alloc | apply pw_below_drewN | apply below_drew1 | refine below_set ?_ GE201.out) | exact HB.out))) : w.heap.size ≤ gb209))
            have n5_ := Aside0.mk ((by rw [hg]; exact Nat.ne_of_lt (blk_lt (g := gb201) (o := .cells #[.int .i64 0, .int .i64 0, .int .i64 0, .int .i64 0, .int .i64 0, .int .i64 0, .int .i64 0, .int .i64 0, .int .i64 0, .int .i64 0, .int .i64 0, .int .i64 0] 24 (0, 0)) (by (with_reducible repeat (first | refine blk_drewN ?_ _ | refine blk_drew ?_ | refine blk_alloc ?_ _)); exact BK201.out)) : gb201 ≠ gb209))
            have n6_ := Aside0.mk ((by rw [hg]; exact Nat.ne_of_gt (blk_lt (g := gb201) (o := .cells #[.int .i64 0, .int .i64 0, .int .i64 0, .int .i64 0, .int .i64 0, .int .i64 0, .int .i64 0, .int .i64 0, .int .i64 0, .int .i64 0, .int .i64 0, .int .i64 0] 24 (0, 0)) (by (with_reducible repeat (first | refine blk_drewN ?_ _ | refine blk_drew ?_ | refine blk_alloc ?_ _)); exact BK201.out)) : gb209 ≠ gb201))
            clear BK201
            clear HB
            have BK201 := n0_
            have HB := n1_
            have BK209 := n2_
            have GW209 := n3_
            have GE209 := n4_
            have NB201_209 := n5_
            have NB209_201 := n6_
            clear n0_ n1_ n2_ n3_ n4_ n5_ n6_
            clear hb hbox hg
            refine hK.out _ _ (((HB.out.cell (World.block_lt_of_cell? w _ hw202_0)).trans hw202_0)) (fun hHeld => ?_)
            clear hK K
            refine norm_ (a' := ?_) ?_ ?_
            rotate_left
            ·show Act.put _ (some 4) _ = _
             simp only [Act.put, List.setIfInBounds_toArray, List.set_cons_zero, List.set_cons_succ, i64_w, i32_w]
             rfl
            refine one_ (i := 10) (N := some 22) #[true, true, true, true, true, true, true, true, true, true, true, false, true, true, false, false, false, true, false] rfl rfl (one_of HT_.out (by kernel_rfl)) (by decide) (fun K hK => ?_)
            refine goes_ Try.func32 (by kernel_rfl) rfl #[.slice A16 ((l0.take 8).drop 4).length (c0 - 4)] (by rfl) rfl rfl (by (try simp only [List.map_toArray, List.map_cons, List.map_nil]); first | done | (rw [show ((l0.take 8).drop 4).length = (8 - 4) from (by rw [List.length_drop, List.length_take]; have h_ : (8 : Int) ≤ (l0.length : Int) := of_decide_eq_true (by first | (with_reducible assumption) | assumption); omega)] <;> rfl) | rfl | (simp only [List.length_drop, List.length_take]; rfl)) ?_
            with_reducible refine (leveeref01_Get.calls k _ _ ((l0.take 8).drop 4) t206 _ ?side1 ?side2 A9.out).mono ?_
            (case side1 => repeat (first | exact (Kd.C_below HR205.out HB.out) | (with_reducible refine Kd.C_alloc ?_ _) | (with_reducible refine Kd.C_drewN ?_ _) | (with_reducible refine Kd.C_drew ?_)))
            (case side2 => exact HC205.out)
            rintro e w' ⟨rfl, ⟨nd, rfl⟩⟩
            refine ⟨_, rfl, ?_⟩
            refine hK.out _ _ (((HB.out.cell (World.block_lt_of_cell? w _ hw202_0)).trans hw202_0)) (fun hHeld => ?_)
            clear hK K
            refine norm_ (a' := ?_) ?_ ?_
            rotate_left
            ·show Act.put _ (some 22) _ = _
             simp only [Act.put, List.setIfInBounds_toArray, List.set_cons_zero, List.set_cons_succ, i64_w, i32_w]
             rfl
            refine pure_ (i := 11) (N := some 23) (v := ?_) (a' := ?_) #[true, true, true, true, true, true, true, true, true, true, true, true, true, true, false, false, false, true, false] rfl rfl (any_of HT_.out (by kernel_rfl)) (fun _ _ _ h => h) (Or.inl ⟨by rfl, ?_⟩) ?_ ?_
            rotate_left
            ·intro w'
             go_simp
             with_reducible rfl
            rotate_left
            ·simp only [Act.put, List.setIfInBounds_toArray, List.set_cons_zero, List.set_cons_succ, i64_w, i32_w]
             rfl
            refine one_ (i := 14) (N := some 26) #[true, true, true, true, true, true, true, true, true, true, true, true, true, true, true, false, false, true, false] rfl rfl (one_of HT_.out (by kernel_rfl)) (by decide) (fun K hK => ?_)
            refine goes_ Try.func32 (by kernel_rfl) rfl #[.slice A17 ((l0.take 16).drop 8).length (c0 - 8)] (by rfl) rfl rfl (by (try simp only [List.map_toArray, List.map_cons, List.map_nil]); first | done | (rw [show ((l0.take 16).drop 8).length = (16 - 8) from (by rw [List.length_drop, List.length_take]; have h_ : (16 : Int) ≤ (l0.length : Int) := of_decide_eq_true (by first | (with_reducible assumption) | assumption); omega)] <;> rfl) | rfl | (simp only [List.length_drop, List.length_take]; rfl)) ?_
            with_reducible refine (leveeref01_Get.calls k _ _ ((l0.take 16).drop 8) t208 _ ?side1 ?side2 A12.out).mono ?_
            (case side1 => repeat (first | exact (Kd.C_below HR207.out (by repeat (first | (with_reducible first | exact HB.out | apply below_alloc | apply pw_below_drewN | apply below_drew1 | refine below_set ?_ GE201.out | refine below_set ?_ GE209.out) | exact HB.out))) | (with_reducible refine Kd.C_alloc ?_ _) | (with_reducible refine Kd.C_drewN ?_ _) | (with_reducible refine Kd.C_drew ?_)))
            (case side2 => exact HC207.out)
            rintro e w' ⟨rfl, ⟨nd, rfl⟩⟩
            refine ⟨_, rfl, ?_⟩
            refine hK.out _ _ (((HB.out.cell (World.block_lt_of_cell? w _ hw202_0)).trans hw202_0)) (fun hHeld => ?_)
            clear hK K
            refine norm_ (a' := ?_) ?_ ?_
            rotate_left
            ·show Act.put _ (some 26) _ = _
             simp only [Act.put, List.setIfInBounds_toArray, List.set_cons_zero, List.set_cons_succ, i64_w, i32_w]
             rfl
            refine pure_ (i := 15) (N := some 27) (v := ?_) (a' := ?_) #[true, true, true, true, true, true, true, true, true, true, true, true, true, true, true, true, false, true, false] rfl rfl (any_of HT_.out (by kernel_rfl)) (fun _ _ _ h => h) (Or.inl ⟨by rfl, ?_⟩) ?_ ?_
            rotate_left
            ·intro w'
             go_simp
             with_reducible rfl
            rotate_left
            ·simp only [Act.put, List.setIfInBounds_toArray, List.set_cons_zero, List.set_cons_succ, i64_w, i32_w]
             rfl
            refine pure_ (i := 16) (N := some 28) (v := ?_) (a' := ?_) #[true, true, true, true, true, true, true, true, true, true, true, true, true, true, true, true, true, true, false] rfl rfl (any_of HT_.out (by kernel_rfl)) (fun _ _ _ h => h) (Or.inl ⟨by rfl, ?_⟩) ?_ ?_
            rotate_left
            ·intro w'
             go_simp
             with_reducible rfl
            rotate_left
            ·simp only [Act.put, List.setIfInBounds_toArray, List.set_cons_zero, List.set_cons_succ, i64_w, i32_w]
             rfl
            exact norm_ (by simp only [putAll, Act.put, List.setIfInBounds_toArray, List.set_cons_zero, List.set_cons_succ]) (hCont (gb209) _ ⟨hHeld, (by (with_reducible repeat (first | refine blk_drewN ?_ _ | refine blk_drew ?_ | refine blk_alloc ?_ _)); exact BK201.out), (by (with_reducible repeat (first | refine blk_drewN ?_ _ | refine blk_drew ?_ | refine blk_alloc ?_ _)); exact BK209.out), GW209.out, GE209.out, NB201_209.out, NB209_201.out, (by repeat (first | (with_reducible first | exact HB.out | apply below_alloc | apply pw_below_drewN | apply below_drew1 | refine below_set ?_ GE201.out | refine below_set ?_ GE209.out) | exact HB.out))⟩)
          ·skip
           refine box_step ?hg (N := 4) ?hd (cs := #[.int .i64 0, .int .i64 0, .int .i64 0, .int .i64 0, .int .i64 0, .int .i64 0, .int .i64 0, .int .i64 0, .int .i64 0, .int .i64 0, .int .i64 0, .int .i64 0]) (t := 24) ?hr ?_; (case hd => rfl); (case hg => rfl); (case hr => first | (go_simp; done) | (go_simp; rfl))
           intro gb209 hg w18 hbox hb
           have n0_ := Aside0.mk (blk_below (g := gb201) (o := .cells #[.int .i64 0, .int .i64 0, .int .i64 0, .int .i64 0, .int .i64 0, .int .i64 0, .int .i64 0, .int .i64 0, .int .i64 0, .int .i64 0, .int .i64 0, .int .i64 0] 24 (0, 0)) (by (with_reducible repeat (first | refine blk_drewN ?_ _ | refine blk_drew ?_ | refine blk_alloc ?_ _)); exact BK201.out) hb)
           have n1_ := Aside0.mk (below_step (by repeat (first | (with_reducible first | exact HB.out | apply below_alloc | apply pw_below_drewN | apply below_drew1 | refine below_set ?_ GE201.out) | exact HB.out)) hb)
           have n2_ := Aside0.mk (hbox)
           have n3_ := Aside0.mk ((by rw [hg]; exact (below_size (by repeat (first | (with_reducible first | exact HB.out | apply below_alloc | apply pw_below_drewN | apply below_drew1 | refine below_set ?_ GE201.out) | exact HB.out))) : w.heap.size ≤ gb209))
           have n4_ := Aside0.mk ((by rw [hg]; exact (below_size (by repeat (first | (with_reducible first | exact HB.out | apply below_alloc | apply pw_below_drewN | apply below_drew1 | refine below_set ?_ GE201.out) | exact HB.out))) : w.heap.size ≤ gb209))
           have n5_ := Aside0.mk ((by rw [hg]; exact Nat.ne_of_lt (blk_lt (g := gb201) (o := .cells #[.int .i64 0, .int .i64 0, .int .i64 0, .int .i64 0, .int .i64 0, .int .i64 0, .int .i64 0, .int .i64 0, .int .i64 0, .int .i64 0, .int .i64 0, .int .i64 0] 24 (0, 0)) (by (with_reducible repeat (first | refine blk_drewN ?_ _ | refine blk_drew ?_ | refine blk_alloc ?_ _)); exact BK201.out)) : gb201 ≠ gb209))
           have n6_ := Aside0.mk ((by rw [hg]; exact Nat.ne_of_gt (blk_lt (g := gb201) (o := .cells #[.int .i64 0, .int .i64 0, .int .i64 0, .int .i64 0, .int .i64 0, .int .i64 0, .int .i64 0, .int .i64 0, .int .i64 0, .int .i64 0, .int .i64 0, .int .i64 0] 24 (0, 0)) (by (with_reducible repeat (first | refine blk_drewN ?_ _ | refine blk_drew ?_ | refine blk_alloc ?_ _)); exact BK201.out)) : gb209 ≠ gb201))
           clear BK201
           clear HB
           have BK201 := n0_
           have HB := n1_
           have BK209 := n2_
           have GW209 := n3_
           have GE209 := n4_
           have NB201_209 := n5_
           have NB209_201 := n6_
           clear n0_ n1_ n2_ n3_ n4_ n5_ n6_
           clear hb hbox hg
           refine hK.out _ _ (((HB.out.cell (World.block_lt_of_cell? w _ hw202_0)).trans hw202_0)) (fun hHeld => ?_)
           clear hK K
           refine norm_ (a' := ?_) ?_ ?_
           rotate_left
           ·show Act.put _ (some 4) _ = _
            simp only [Act.put, List.setIfInBounds_toArray, List.set_cons_zero, List.set_cons_succ, i64_w, i32_w]
            rfl
           refine one_ (i := 6) (N := some 18) #[true, true, true, true, true, true, true, false, true, true, false, false, true, true, false, false, false, true, false] rfl rfl (one_of HT_.out (by kernel_rfl)) (by decide) (fun K hK => ?_)
           refine goes_ Try.func32 (by kernel_rfl) rfl #[.slice A15 ((l0.take 4).drop 2).length (c0 - 2)] (by rfl) rfl rfl (by (try simp only [List.map_toArray, List.map_cons, List.map_nil]); first | done | (rw [show ((l0.take 4).drop 2).length = (4 - 2) from (by rw [List.length_drop, List.length_take]; have h_ : (4 : Int) ≤ (l0.length : Int) := of_decide_eq_true (by first | (with_reducible assumption) | assumption); omega)] <;> rfl) | rfl | (simp only [List.length_drop, List.length_take]; rfl)) ?_
           with_reducible refine (leveeref01_Get.calls k _ _ ((l0.take 4).drop 2) t204 _ ?side1 ?side2 A6.out).mono ?_
           (case side1 => repeat (first | exact (Kd.C_below HR203.out HB.out) | (with_reducible refine Kd.C_alloc ?_ _) | (with_reducible refine Kd.C_drewN ?_ _) | (with_reducible refine Kd.C_drew ?_)))
           (case side2 => exact HC203.out)
           rintro e w' ⟨rfl, ⟨nd, rfl⟩⟩
           refine ⟨_, rfl, ?_⟩
           refine hK.out _ _ (((HB.out.cell (World.block_lt_of_cell? w _ hw202_0)).trans hw202_0)) (fun hHeld => ?_)
           clear hK K
           refine norm_ (a' := ?_) ?_ ?_
           rotate_left
           ·show Act.put _ (some 18) _ = _
            simp only [Act.put, List.setIfInBounds_toArray, List.set_cons_zero, List.set_cons_succ, i64_w, i32_w]
            rfl
           refine pure_ (i := 7) (N := some 19) (v := ?_) (a' := ?_) #[true, true, true, true, true, true, true, true, true, true, false, false, true, true, false, false, false, true, false] rfl rfl (any_of HT_.out (by kernel_rfl)) (fun _ _ _ h => h) (Or.inl ⟨by rfl, ?_⟩) ?_ ?_
           rotate_left
           ·intro w'
            go_simp
            with_reducible rfl
           rotate_left
           ·simp only [Act.put, List.setIfInBounds_toArray, List.set_cons_zero, List.set_cons_succ, i64_w, i32_w]
            rfl
           refine one_ (i := 10) (N := some 22) #[true, true, true, true, true, true, true, true, true, true, true, false, true, true, false, false, false, true, false] rfl rfl (one_of HT_.out (by kernel_rfl)) (by decide) (fun K hK => ?_)
           refine goes_ Try.func32 (by kernel_rfl) rfl #[.slice A16 ((l0.take 8).drop 4).length (c0 - 4)] (by rfl) rfl rfl (by (try simp only [List.map_toArray, List.map_cons, List.map_nil]); first | done | (rw [show ((l0.take 8).drop 4).length = (8 - 4) from (by rw [List.length_drop, List.length_take]; have h_ : (8 : Int) ≤ (l0.length : Int) := of_decide_eq_true (by first | (with_reducible assumption) | assumption); omega)] <;> rfl) | rfl | (simp only [List.length_drop, List.length_take]; rfl)) ?_
           with_reducible refine (leveeref01_Get.calls k _ _ ((l0.take 8).drop 4) t206 _ ?side1 ?side2 A9.out).mono ?_
           (case side1 => repeat (first | exact (Kd.C_below HR205.out (by repeat (first | (with_reducible first | exact HB.out | apply below_alloc | apply pw_below_drewN | apply below_drew1 | refine below_set ?_ GE201.out | refine below_set ?_ GE209.out) | exact HB.out))) | (with_reducible refine Kd.C_alloc ?_ _) | (with_reducible refine Kd.C_drewN ?_ _) | (with_reducible refine Kd.C_drew ?_)))
           (case side2 => exact HC205.out)
           rintro e w' ⟨rfl, ⟨nd, rfl⟩⟩
           refine ⟨_, rfl, ?_⟩
           refine hK.out _ _ (((HB.out.cell (World.block_lt_of_cell? w _ hw202_0)).trans hw202_0)) (fun hHeld => ?_)
           clear hK K
           refine norm_ (a' := ?_) ?_ ?_
           rotate_left
           ·show Act.put _ (some 22) _ = _
            simp only [Act.put, List.setIfInBounds_toArray, List.set_cons_zero, List.set_cons_succ, i64_w, i32_w]
            rfl
           refine pure_ (i := 11) (N := some 23) (v := ?_) (a' := ?_) #[true, true, true, true, true, true, true, true, true, true, true, true, true, true, false, false, false, true, false] rfl rfl (any_of HT_.out (by kernel_rfl)) (fun _ _ _ h => h) (Or.inl ⟨by rfl, ?_⟩) ?_ ?_
           rotate_left
           ·intro w'
            go_simp
            with_reducible rfl
           rotate_left
           ·simp only [Act.put, List.setIfInBounds_toArray, List.set_cons_zero, List.set_cons_succ, i64_w, i32_w]
            rfl
           refine one_ (i := 14) (N := some 26) #[true, true, true, true, true, true, true, true, true, true, true, true, true, true, true, false, false, true, false] rfl rfl (one_of HT_.out (by kernel_rfl)) (by decide) (fun K hK => ?_)
           refine goes_ Try.func32 (by kernel_rfl) rfl #[.slice A17 ((l0.take 16).drop 8).length (c0 - 8)] (by rfl) rfl rfl (by (try simp only [List.map_toArray, List.map_cons, List.map_nil]); first | done | (rw [show ((l0.take 16).drop 8).length = (16 - 8) from (by rw [List.length_drop, List.length_take]; have h_ : (16 : Int) ≤ (l0.length : Int) := of_decide_eq_true (by first | (with_reducible assumption) | assumption); omega)] <;> rfl) | rfl | (simp only [List.length_drop, List.length_take]; rfl)) ?_
           with_reducible refine (leveeref01_Get.calls k _ _ ((l0.take 16).drop 8) t208 _ ?side1 ?side2 A12.out).mono ?_
           (case side1 => repeat (first | exact (Kd.C_below HR207.out (by repeat (first | (with_reducible first | exact HB.out | apply below_alloc | apply pw_below_drewN | apply below_drew1 | refine below_set ?_ GE201.out | refine below_set ?_ GE209.out) | exact HB.out))) | (with_reducible refine Kd.C_alloc ?_ _) | (with_reducible refine Kd.C_drewN ?_ _) | (with_reducible refine Kd.C_drew ?_)))
           (case side2 => exact HC207.out)
           rintro e w' ⟨rfl, ⟨nd, rfl⟩⟩
           refine ⟨_, rfl, ?_⟩
           refine hK.out _ _ (((HB.out.cell (World.block_lt_of_cell? w _ hw202_0)).trans hw202_0)) (fun hHeld => ?_)
           clear hK K
           refine norm_ (a' := ?_) ?_ ?_
           rotate_left
           ·show Act.put _ (some 26) _ = _
            simp only [Act.put, List.setIfInBounds_toArray, List.set_cons_zero, List.set_cons_succ, i64_w, i32_w]
            rfl
           refine pure_ (i := 15) (N := some 27) (v := ?_) (a' := ?_) #[true, true, true, true, true, true, true, true, true, true, true, true, true, true, true, true, false, true, false] rfl rfl (any_of HT_.out (by kernel_rfl)) (fun _ _ _ h => h) (Or.inl ⟨by rfl, ?_⟩) ?_ ?_
           rotate_left
           ·intro w'
            go_simp
            with_reducible rfl
           rotate_left
           ·simp only [Act.put, List.setIfInBounds_toArray, List.set_cons_zero, List.set_cons_succ, i64_w, i32_w]
            rfl
           refine pure_ (i := 16) (N := some 28) (v := ?_) (a' := ?_) #[true, true, true, true, true, true, true, true, true, true, true, true, true, true, true, true, true, true, false] rfl rfl (any_of HT_.out (by kernel_rfl)) (fun _ _ _ h => h) (Or.inl ⟨by rfl, ?_⟩) ?_ ?_
           rotate_left
           ·intro w'
            go_simp
            with_reducible rfl
           rotate_left
           ·simp only [Act.put, List.setIfInBounds_toArray, List.set_cons_zero, List.set_cons_succ, i64_w, i32_w]
            rfl
           exact norm_ (by simp only [putAll, Act.put, List.setIfInBounds_toArray, List.set_cons_zero, List.set_cons_succ]) (hCont (gb209) _ ⟨hHeld, (by (with_reducible repeat (first | refine blk_drewN ?_ _ | refine blk_drew ?_ | refine blk_alloc ?_ _)); exact BK201.out), (by (with_reducible repeat (first | refine blk_drewN ?_ _ | refine blk_drew ?_ | refine blk_alloc ?_ _)); exact BK209.out), GW209.out, GE209.out, NB201_209.out, NB209_201.out, (by repeat (first | (with_reducible first | exact HB.out | apply below_alloc | apply pw_below_drewN | apply below_drew1 | refine below_set ?_ GE201.out | refine below_set ?_ GE209.out) | exact HB.out))⟩)
         rintro gb209 w19 ⟨hS_, h0_, h1_, h2_, h3_, h4_, h5_, h6_⟩
         have n0_ : Aside0 (w19.heap[gb201]? = some (.cells #[.int .i64 0, .int .i64 0, .int .i64 0, .int .i64 0, .int .i64 0, .int .i64 0, .int .i64 0, .int .i64 0, .int .i64 0, .int .i64 0, .int .i64 0, .int .i64 0] 24 (0, 0))) := ⟨h0_⟩
         have n1_ : Aside0 (w19.heap[gb209]? = some (.cells #[.int .i64 0, .int .i64 0, .int .i64 0, .int .i64 0, .int .i64 0, .int .i64 0, .int .i64 0, .int .i64 0, .int .i64 0, .int .i64 0, .int .i64 0, .int .i64 0] 24 (0, 0))) := ⟨h1_⟩
         have n2_ : Aside0 (w.heap.size ≤ gb209) := ⟨h2_⟩
         have n3_ : Aside0 (w.heap.size ≤ gb209) := ⟨h3_⟩
         have n4_ : Aside0 (gb201 ≠ gb209) := ⟨h4_⟩
         have n5_ : Aside0 (gb209 ≠ gb201) := ⟨h5_⟩
         have n6_ : Aside0 (Below w.heap.size w w19) := ⟨h6_⟩
         clear BK201
         clear HB
         clear h0_ h1_ h2_ h3_ h4_ h5_ h6_
         have BK201 := n0_
         have BK209 := n1_
         have GW209 := n2_
         have GE209 := n3_
         have NB201_209 := n4_
         have NB209_201 := n5_
         have HB := n6_
         clear n0_ n1_ n2_ n3_ n4_ n5_ n6_
         have hHeld : w19.cell? ad202 = some (.int .u8 (rd l0 0)) := hS_
         refine norm_ (a' := ?_) ?_ ?_
         rotate_left
         ·simp only [putAll, Act.put, List.setIfInBounds_toArray, List.set_cons_zero, List.set_cons_succ]
          rfl
         refine one_ (i := 18) (N := none) #[true, true, true, true, true, true, true, true, true, true, true, true, true, true, true, true, true, true, true] rfl rfl (one_of HT_.out (by kernel_rfl)) (by decide) (fun K hK => ?_)
         have hs20 : w19.cell? ⟨gb209, 0, none⟩ = some (.int .i64 0) := (blk_cell BK209.out 0).trans rfl
         have hfs20 := blk_frozen BK209.out 0
         have hns20_0 := NB201_209.out
         have hms20_0 := NB209_201.out
         have hs21 : w19.cell? ⟨gb209, 1, none⟩ = some (.int .i64 0) := (blk_cell BK209.out 1).trans rfl
         have hfs21 := blk_frozen BK209.out 1
         have hns21_0 := NB201_209.out
         have hms21_0 := NB209_201.out
         have hs22 : w19.cell? ⟨gb209, 2, none⟩ = some (.int .i64 0) := (blk_cell BK209.out 2).trans rfl
         have hfs22 := blk_frozen BK209.out 2
         have hns22_0 := NB201_209.out
         have hms22_0 := NB209_201.out
         have hs23 : w19.cell? ⟨gb209, 3, none⟩ = some (.int .i64 0) := (blk_cell BK209.out 3).trans rfl
         have hfs23 := blk_frozen BK209.out 3
         have hns23_0 := NB201_209.out
         have hms23_0 := NB209_201.out
         have hs24 : w19.cell? ⟨gb209, 4, none⟩ = some (.int .i64 0) := (blk_cell BK209.out 4).trans rfl
         have hfs24 := blk_frozen BK209.out 4
         have hns24_0 := NB201_209.out
         have hms24_0 := NB209_201.out
         have hs25 : w19.cell? ⟨gb209, 5, none⟩ = some (.int .i64 0) := (blk_cell BK209.out 5).trans rfl
         have hfs25 := blk_frozen BK209.out 5
         have hns25_0 := NB201_209.out
         have hms25_0 := NB209_201.out
         have hs26 : w19.cell? ⟨gb209, 6, none⟩ = some (.int .i64 0) := (blk_cell BK209.out 6).trans rfl
         have hfs26 := blk_frozen BK209.out 6
         have hns26_0 := NB201_209.out
         have hms26_0 := NB209_201.out
         have hs27 : w19.cell? ⟨gb209, 7, none⟩ = some (.int .i64 0) := (blk_cell BK209.out 7).trans rfl
         have hfs27 := blk_frozen BK209.out 7
         have hns27_0 := NB201_209.out
         have hms27_0 := NB209_201.out
         have hs28 : w19.cell? ⟨gb209, 8, none⟩ = some (.int .i64 0) := (blk_cell BK209.out 8).trans rfl
         have hfs28 := blk_frozen BK209.out 8
         have hns28_0 := NB201_209.out
         have hms28_0 := NB209_201.out
         have hs29 : w19.cell? ⟨gb209, 9, none⟩ = some (.int .i64 0) := (blk_cell BK209.out 9).trans rfl
         have hfs29 := blk_frozen BK209.out 9
         have hns29_0 := NB201_209.out
         have hms29_0 := NB209_201.out
         have hs30 : w19.cell? ⟨gb209, 10, none⟩ = some (.int .i64 0) := (blk_cell BK209.out 10).trans rfl
         have hfs30 := blk_frozen BK209.out 10
         have hns30_0 := NB201_209.out
         have hms30_0 := NB209_201.out
         have hs31 : w19.cell? ⟨gb209, 11, none⟩ = some (.int .i64 0) := (blk_cell BK209.out 11).trans rfl
         have hfs31 := blk_frozen BK209.out 11
         have hns31_0 := NB201_209.out
         have hms31_0 := NB209_201.out
         refine skip_ (w1 := ?_) (by rfl) rfl ?_ ?_
         rotate_left
         ·go_simp
          rfl
         refine hK.out _ _ (((cell_far (p := ⟨gb209, _, none⟩) (by first | exact Nat.ne_of_lt (Nat.lt_of_lt_of_le (by have := World.block_lt_of_cell? _ _ hw202_0; first | rwa [add_block] at this | exact this) GW209.out) | (rw [add_block]; exact Nat.ne_of_lt (Nat.lt_of_lt_of_le (by have := World.block_lt_of_cell? _ _ hw202_0; first | rwa [add_block] at this | exact this) GW209.out)) | (show (Addr.add _ _).block ≠ _; rw [add_block]; exact Nat.ne_of_lt (Nat.lt_of_lt_of_le (by have := World.block_lt_of_cell? _ _ hw202_0; first | rwa [add_block] at this | exact this) GW209.out)) | (dsimp only; exact Nat.ne_of_lt (Nat.lt_of_lt_of_le (by have := World.block_lt_of_cell? _ _ hw202_0; first | rwa [add_block] at this | exact this) GW209.out))) _).trans (((cell_far (p := ⟨gb209, _, none⟩) (by first | exact Nat.ne_of_lt (Nat.lt_of_lt_of_le (by have := World.block_lt_of_cell? _ _ hw202_0; first | rwa [add_block] at this | exact this) GW209.out) | (rw [add_block]; exact Nat.ne_of_lt (Nat.lt_of_lt_of_le (by have := World.block_lt_of_cell? _ _ hw202_0; first | rwa [add_block] at this | exact this) GW209.out)) | (show (Addr.add _ _).block ≠ _; rw [add_block]; exact Nat.ne_of_lt (Nat.lt_of_lt_of_le (by have := World.block_lt_of_cell? _ _ hw202_0; first | rwa [add_block] at this | exact this) GW209.out)) | (dsimp only; exact Nat.ne_of_lt (Nat.lt_of_lt_of_le (by have := World.block_lt_of_cell? _ _ hw202_0; first | rwa [add_block] at this | exact this) GW209.out))) _).trans (((cell_far (p := ⟨gb209, _, none⟩) (by first | exact Nat.ne_of_lt (Nat.lt_of_lt_of_le (by have := World.block_lt_of_cell? _ _ hw202_0; first | rwa [add_block] at this | exact this) GW209.out) | (rw [add_block]; exact Nat.ne_of_lt (Nat.lt_of_lt_of_le (by have := World.block_lt_of_cell? _ _ hw202_0; first | rwa [add_block] at this | exact this) GW209.out)) | (show (Addr.add _ _).block ≠ _; rw [add_block]; exact Nat.ne_of_lt (Nat.lt_of_lt_of_le (by have := World.block_lt_of_cell? _ _ hw202_0; first | rwa [add_block] at this | exact this) GW209.out)) | (dsimp only; exact Nat.ne_of_lt (Nat.lt_of_lt_of_le (by have := World.block_lt_of_cell? _ _ hw202_0; first | rwa [add_block] at this | exact this) GW209.out))) _).trans (((cell_far (p := ⟨gb209, _, none⟩) (by first | exact Nat.ne_of_lt (Nat.lt_of_lt_of_le (by have := World.block_lt_of_cell? _ _ hw202_0; first | rwa [add_block] at this | exact this) GW209.out) | (rw [add_block]; exact Nat.ne_of_lt (Nat.lt_of_lt_of_le (by have := World.block_lt_of_cell? _ _ hw202_0; first | rwa [add_block] at this | exact this) GW209.out)) | (show (Addr.add _ _).block ≠ _; rw [add_block]; exact Nat.ne_of_lt (Nat.lt_of_lt_of_le (by have := World.block_lt_of_cell? _ _ hw202_0; first | rwa [add_block] at this | exact this) GW209.out)) | (dsimp only; exact Nat.ne_of_lt (Nat.lt_of_lt_of_le (by have := World.block_lt_of_cell? _ _ hw202_0; first | rwa [add_block] at this | exact this) GW209.out))) _).trans (((cell_far (p := ⟨gb209, _, none⟩) (by first | exact Nat.ne_of_lt (Nat.lt_of_lt_of_le (by have := World.block_lt_of_cell? _ _ hw202_0; first | rwa [add_block] at this | exact this) GW209.out) | (rw [add_block]; exact Nat.ne_of_lt (Nat.lt_of_lt_of_le (by have := World.block_lt_of_cell? _ _ hw202_0; first | rwa [add_block] at this | exact this) GW209.out)) | (show (Addr.add _ _).block ≠ _; rw [add_block]; exact Nat.ne_of_lt (Nat.lt_of_lt_of_le (by have := World.block_lt_of_cell? _ _ hw202_0; first | rwa [add_block] at this | exact this) GW209.out)) | (dsimp only; exact Nat.ne_of_lt (Nat.lt_of_lt_of_le (by have := World.block_lt_of_cell? _ _ hw202_0; first | rwa [add_block] at this | exact this) GW209.out))) _).trans (((cell_far (p := ⟨gb209, _, none⟩) (by first | exact Nat.ne_of_lt (Nat.lt_of_lt_of_le (by have := World.block_lt_of_cell? _ _ hw202_0; first | rwa [add_block] at this | exact this) GW209.out) | (rw [add_block]; exact Nat.ne_of_lt (Nat.lt_of_lt_of_le (by have := World.block_lt_of_cell? _ _ hw202_0; first | rwa [add_block] at this | exact this) GW209.out)) | (show (Addr.add _ _).block ≠ _; rw [add_block]; exact Nat.ne_of_lt (Nat.lt_of_lt_of_le (by have := World.block_lt_of_cell? _ _ hw202_0; first | rwa [add_block] at this | exact this) GW209.out)) | (dsimp only; exact Nat.ne_of_lt (Nat.lt_of_lt_of_le (by have := World.block_lt_of_cell? _ _ hw202_0; first | rwa [add_block] at this | exact this) GW209.out))) _).trans (((cell_far (p := ⟨gb209, _, none⟩) (by first | exact Nat.ne_of_lt (Nat.lt_of_lt_of_le (by have := World.block_lt_of_cell? _ _ hw202_0; first | rwa [add_block] at this | exact this) GW209.out) | (rw [add_block]; exact Nat.ne_of_lt (Nat.lt_of_lt_of_le (by have := World.block_lt_of_cell? _ _ hw202_0; first | rwa [add_block] at this | exact this) GW209.out)) | (show (Addr.add _ _).block ≠ _; rw [add_block]; exact Nat.ne_of_lt (Nat.lt_of_lt_of_le (by have := World.block_lt_of_cell? _ _ hw202_0; first | rwa [add_block] at this | exact this) GW209.out)) | (dsimp only; exact Nat.ne_of_lt (Nat.lt_of_lt_of_le (by have := World.block_lt_of_cell? _ _ hw202_0; first | rwa [add_block] at this | exact this) GW209.out))) _).trans (((cell_far (p := ⟨gb209, _, none⟩) (by first | exact Nat.ne_of_lt (Nat.lt_of_lt_of_le (by have := World.block_lt_of_cell? _ _ hw202_0; first | rwa [add_block] at this | exact this) GW209.out) | (rw [add_block]; exact Nat.ne_of_lt (Nat.lt_of_lt_of_le (by have := World.block_lt_of_cell? _ _ hw202_0; first | rwa [add_block] at this | exact this) GW209.out)) | (show (Addr.add _ _).block ≠ _; rw [add_block]; exact Nat.ne_of_lt (Nat.lt_of_lt_of_le (by have := World.block_lt_of_cell? _ _ hw202_0; first | rwa [add_block] at this | exact this) GW209.out)) | (dsimp only; exact Nat.ne_of_lt (Nat.lt_of_lt_of_le (by have := World.block_lt_of_cell? _ _ hw202_0; first | rwa [add_block] at this | exact this) GW209.out))) _).trans (((cell_far (p := ⟨gb209, _, none⟩) (by first | exact Nat.ne_of_lt (Nat.lt_of_lt_of_le (by have := World.block_lt_of_cell? _ _ hw202_0; first | rwa [add_block] at this | exact this) GW209.out) | (rw [add_block]; exact Nat.ne_of_lt (Nat.lt_of_lt_of_le (by have := World.block_lt_of_cell? _ _ hw202_0; first | rwa [add_block] at this | exact this) GW209.out)) | (show (Addr.add _ _).block ≠ _; rw [add_block]; exact Nat.ne_of_lt (Nat.lt_of_lt_of_le (by have := World.block_lt_of_cell? _ _ hw202_0; first | rwa [add_block] at this | exact this) GW209.out)) | (dsimp only; exact Nat.ne_of_lt (Nat.lt_of_lt_of_le (by have := World.block_lt_of_cell? _ _ hw202_0; first | rwa [add_block] at this | exact this) GW209.out))) _).trans (((cell_far (p := ⟨gb209, _, none⟩) (by first | exact Nat.ne_of_lt (Nat.lt_of_lt_of_le (by have := World.block_lt_of_cell? _ _ hw202_0; first | rwa [add_block] at this | exact this) GW209.out) | (rw [add_block]; exact Nat.ne_of_lt (Nat.lt_of_lt_of_le (by have := World.block_lt_of_cell? _ _ hw202_0; first | rwa [add_block] at this | exact this) GW209.out)) | (show (Addr.add _ _).block ≠ _; rw [add_block]; exact Nat.ne_of_lt (Nat.lt_of_lt_of_le (by have := World.block_lt_of_cell? _ _ hw202_0; first | rwa [add_block] at this | exact this) GW209.out)) | (dsimp only; exact Nat.ne_of_lt (Nat.lt_of_lt_of_le (by have := World.block_lt_of_cell? _ _ hw202_0; first | rwa [add_block] at this | exact this) GW209.out))) _).trans (((cell_far (p := ⟨gb209, _, none⟩) (by first | exact Nat.ne_of_lt (Nat.lt_of_lt_of_le (by have := World.block_lt_of_cell? _ _ hw202_0; first | rwa [add_block] at this | exact this) GW209.out) | (rw [add_block]; exact Nat.ne_of_lt (Nat.lt_of_lt_of_le (by have := World.block_lt_of_cell? _ _ hw202_0; first | rwa [add_block] at this | exact this) GW209.out)) | (show (Addr.add _ _).block ≠ _; rw [add_block]; exact Nat.ne_of_lt (Nat.lt_of_lt_of_le (by have := World.block_lt_of_cell? _ _ hw202_0; first | rwa [add_block] at this | exact this) GW209.out)) | (dsimp only; exact Nat.ne_of_lt (Nat.lt_of_lt_of_le (by have := World.block_lt_of_cell? _ _ hw202_0; first | rwa [add_block] at this | exact this) GW209.out))) _).trans (((cell_far (p := ⟨gb209, _, none⟩) (by first | exact Nat.ne_of_lt (Nat.lt_of_lt_of_le (by have := World.block_lt_of_cell? _ _ hw202_0; first | rwa [add_block] at this | exact this) GW209.out) | (rw [add_block]; exact Nat.ne_of_lt (Nat.lt_of_lt_of_le (by have := World.block_lt_of_cell? _ _ hw202_0; first | rwa [add_block] at this | exact this) GW209.out)) | (show (Addr.add _ _).block ≠ _; rw [add_block]; exact Nat.ne_of_lt (Nat.lt_of_lt_of_le (by have := World.block_lt_of_cell? _ _ hw202_0; first | rwa [add_block] at this | exact this) GW209.out)) | (dsimp only; exact Nat.ne_of_lt (Nat.lt_of_lt_of_le (by have := World.block_lt_of_cell? _ _ hw202_0; first | rwa [add_block] at this | exact this) GW209.out))) _).trans (hHeld))))))))))))))))))))))))) (fun hHeld => ?_)
         clear hK K
         refine done_ (done_of HT_.out (by kernel_rfl)) ?_
         try go_wp2
         go_loopg [5] k (fun kq v5 w' => ∃ (x5_1 : Int) (x210004_1 : Int) (x210005_1 : Int) (x210006_1 : Int) (x210007_1 : Int) (x210008_1 : Int) (x210009_1 : Int), v5 = .int .i64 x5_1 ∧ Aside0 (leveeref07_Get.l0 kq l0 x5_1 (wrap64 (rd l0 0)) (wrap64 (t204)) (wrap64 (t206)) (wrap64 (t208)) x210004_1 x210005_1 x210006_1 x210007_1 x210008_1 x210009_1 0 0 = some (r1, r2, r3, r4, r5, r6, r7, r8, r9, r10, r11, r12, r13)) ∧ Aside0 (kq ≤ k) ∧ Aside0 (w'.heap[gb201]? = some (.cells #[.int .i64 0, .int .i64 0, .int .i64 0, .int .i64 0, .int .i64 0, .int .i64 0, .int .i64 0, .int .i64 0, .int .i64 0, .int .i64 0, .int .i64 0, .int .i64 0] 24 (0, 0))) ∧ Aside0 (w'.heap[gb209]? = some (.cells #[.int .i64 (wrap64 (rd l0 0)), .int .i64 (wrap64 (t204)), .int .i64 (wrap64 (t206)), .int .i64 (wrap64 (t208)), .int .i64 x210004_1, .int .i64 x210005_1, .int .i64 x210006_1, .int .i64 x210007_1, .int .i64 x210008_1, .int .i64 x210009_1, .int .i64 0, .int .i64 0] 24 (0, 0))) ∧ Aside0 (Below w.heap.size w w'))
         case atStart => exact ⟨(0), (0), (0), (0), (0), (0), (0), (by first | rfl | (simp; done) | (simp [*]; done)), H', ⟨Nat.le_refl _⟩, ⟨by (with_reducible repeat (first | refine blk_drewN ?_ _ | refine blk_drew ?_ | refine blk_alloc ?_ _)); refine blk_far12 ?_ NB201_209.out; (with_reducible repeat (first | refine blk_drewN ?_ _ | refine blk_drew ?_ | refine blk_alloc ?_ _)); exact BK201.out⟩, ⟨by (with_reducible repeat (first | refine blk_drewN ?_ _ | refine blk_drew ?_ | refine blk_alloc ?_ _)); refine blk_put12 (.int .i64 0) (.int .i64 0) (.int .i64 0) (.int .i64 0) (.int .i64 0) (.int .i64 0) (.int .i64 0) (.int .i64 0) (.int .i64 0) (.int .i64 0) (.int .i64 0) (.int .i64 0) ?_; (with_reducible repeat (first | refine blk_drewN ?_ _ | refine blk_drew ?_ | refine blk_alloc ?_ _)); exact BK209.out⟩, ⟨by repeat (first | (with_reducible first | exact HB.out | apply below_alloc | apply pw_below_drewN | apply below_drew1 | refine below_set ?_ GE201.out | refine below_set ?_ GE209.out) | exact HB.out)⟩⟩
         case round =>
          clear H'
          try clear c1
          try clear p2
          try clear q2
          try clear hx2
          try clear qi2
          try clear c3
          try clear c4
          try clear c5
          try clear c5b0
          try clear c5b1
          try clear p6
          try clear c7
          try clear c7b0
          try clear c7b1
          try clear c8
          try clear c8b0
          try clear c8b1
          try clear c10
          try clear c10b0
          try clear c10b1
          try clear c11
          try clear c11b0
          try clear c11b1
          try clear p20
          try clear q20
          try clear hx20
          try clear qi20
          try clear hx202_0
          try clear p202
          try clear q202
          obtain ⟨x5_1, x210004_1, x210005_1, x210006_1, x210007_1, x210008_1, x210009_1, rfl, HA, HK1, BK201, BK209, HB⟩ := hrel
          cases gk with
          | zero => exact absurd HA.out (by simp [leveeref07_Get.l0])
          | succ k1 =>
           have H := HA.out
           clear HA
           simp only [leveeref07_Get.l0] at H
           by_cases c32 : x5_1 < 6
           ·rw [if_pos c32] at H
            have c32b0 : decide (x5_1 < 6) = true := decide_eq_true c32
            clear c32
            obtain ⟨ji33, hji33⟩ : ∃ j_ : Int, (wrap64 (16 + (wrap64 (2 * x5_1)))) = j_ := ⟨_, rfl⟩
            replace H : (if 0 ≤ (ji33) then (if (ji33) ≤ (wrap64 (18 + (wrap64 (2 * x5_1)))) then (if (wrap64 (18 + (wrap64 (2 * x5_1)))) ≤ (l0.length : Int) then ((leveeref01_Get.f k1 ((l0.take ((wrap64 (18 + (wrap64 (2 * x5_1)))) : Int).toNat).drop ((ji33) : Int).toNat)).bind fun t211 => (if x5_1 = (0 : Int) then (leveeref07_Get.l0 k1 l0 (wrap64 (x5_1 + 1)) (wrap64 (rd l0 0)) (wrap64 (t204)) (wrap64 (t206)) (wrap64 (t208)) (wrap64 (t211)) x210005_1 x210006_1 x210007_1 x210008_1 x210009_1 0 0) else (if x5_1 = (1 : Int) then (leveeref07_Get.l0 k1 l0 (wrap64 (x5_1 + 1)) (wrap64 (rd l0 0)) (wrap64 (t204)) (wrap64 (t206)) (wrap64 (t208)) x210004_1 (wrap64 (t211)) x210006_1 x210007_1 x210008_1 x210009_1 0 0) else (if x5_1 = (2 : Int) then (leveeref07_Get.l0 k1 l0 (wrap64 (x5_1 + 1)) (wrap64 (rd l0 0)) (wrap64 (t204)) (wrap64 (t206)) (wrap64 (t208)) x210004_1 x210005_1 (wrap64 (t211)) x210007_1 x210008_1 x210009_1 0 0) else (if x5_1 = (3 : Int) then (leveeref07_Get.l0 k1 l0 (wrap64 (x5_1 + 1)) (wrap64 (rd l0 0)) (wrap64 (t204)) (wrap64 (t206)) (wrap64 (t208)) x210004_1 x210005_1 x210006_1 (wrap64 (t211)) x210008_1 x210009_1 0 0) else (if x5_1 = (4 : Int) then (leveeref07_Get.l0 k1 l0 (wrap64 (x5_1 + 1)) (wrap64 (rd l0 0)) (wrap64 (t204)) (wrap64 (t206)) (wrap64 (t208)) x210004_1 x210005_1 x210006_1 x210007_1 (wrap64 (t211)) x210009_1 0 0) else (if x5_1 = (5 : Int) then (leveeref07_Get.l0 k1 l0 (wrap64 (x5_1 + 1)) (wrap64 (rd l0 0)) (wrap64 (t204)) (wrap64 (t206)) (wrap64 (t208)) x210004_1 x210005_1 x210006_1 x210007_1 x210008_1 (wrap64 (t211)) 0 0) else (none)))))))) else (none)) else (none)) else (none)) = some (r1, r2, r3, r4, r5, r6, r7, r8, r9, r10, r11, r12, r13) := by first | (rw [hji33] at H; exact H) | (simp only [hji33] at H ⊢; exact H)
            have hji33w : (IntKind.i64.wrap (16 + (wrap64 (2 * x5_1)))) = ji33 := (i64_w _).trans hji33
            by_cases c34 : 0 ≤ (ji33)
            ·rw [if_pos c34] at H
             have c34b0 := eq_true c34
             have c34b1 : decide (0 ≤ (ji33)) = true := decide_eq_true c34
             clear c34
             by_cases c35 : (ji33) ≤ (wrap64 (18 + (wrap64 (2 * x5_1))))
             ·rw [if_pos c35] at H
              have c35b0 := eq_true c35
              have c35b1 : decide ((ji33) ≤ (wrap64 (18 + (wrap64 (2 * x5_1))))) = true := decide_eq_true c35
              by_cases c36 : (wrap64 (18 + (wrap64 (2 * x5_1)))) ≤ (l0.length : Int)
              ·rw [if_pos c36] at H
               have c36b0 := eq_true c36
               have c36b1 : decide ((wrap64 (18 + (wrap64 (2 * x5_1)))) ≤ (l0.length : Int)) = true := decide_eq_true c36
               replace H := Option.bind_eq_some_iff.mp H
               obtain ⟨t211, A370, H⟩ := H
               replace H : (if x5_1 = (0 : Int) then (leveeref07_Get.l0 k1 l0 (wrap64 (x5_1 + 1)) (wrap64 (rd l0 0)) (wrap64 (t204)) (wrap64 (t206)) (wrap64 (t208)) (wrap64 (t211)) x210005_1 x210006_1 x210007_1 x210008_1 x210009_1 0 0) else (if x5_1 = (1 : Int) then (leveeref07_Get.l0 k1 l0 (wrap64 (x5_1 + 1)) (wrap64 (rd l0 0)) (wrap64 (t204)) (wrap64 (t206)) (wrap64 (t208)) x210004_1 (wrap64 (t211)) x210006_1 x210007_1 x210008_1 x210009_1 0 0) else (if x5_1 = (2 : Int) then (leveeref07_Get.l0 k1 l0 (wrap64 (x5_1 + 1)) (wrap64 (rd l0 0)) (wrap64 (t204)) (wrap64 (t206)) (wrap64 (t208)) x210004_1 x210005_1 (wrap64 (t211)) x210007_1 x210008_1 x210009_1 0 0) else (if x5_1 = (3 : Int) then (leveeref07_Get.l0 k1 l0 (wrap64 (x5_1 + 1)) (wrap64 (rd l0 0)) (wrap64 (t204)) (wrap64 (t206)) (wrap64 (t208)) x210004_1 x210005_1 x210006_1 (wrap64 (t211)) x210008_1 x210009_1 0 0) else (if x5_1 = (4 : Int) then (leveeref07_Get.l0 k1 l0 (wrap64 (x5_1 + 1)) (wrap64 (rd l0 0)) (wrap64 (t204)) (wrap64 (t206)) (wrap64 (t208)) x210004_1 x210005_1 x210006_1 x210007_1 (wrap64 (t211)) x210009_1 0 0) else (if x5_1 = (5 : Int) then (leveeref07_Get.l0 k1 l0 (wrap64 (x5_1 + 1)) (wrap64 (rd l0 0)) (wrap64 (t204)) (wrap64 (t206)) (wrap64 (t208)) x210004_1 x210005_1 x210006_1 x210007_1 x210008_1 (wrap64 (t211)) 0 0) else (none))))))) = some (r1, r2, r3, r4, r5, r6, r7, r8, r9, r10, r11, r12, r13) := H
               have A37 := Aside0.mk A370
               clear A370
               by_cases c38 : x5_1 = (0 : Int)
               ·rw [if_pos c38] at H
                have c38z := Aside0.mk c38
                (try (have c38i : ∀ (t_ : TypeId) (v_ : Value), Instr.index t_ v_ (.int .i64 x5_1) = Instr.index t_ v_ (.int .i64 0) := fun _ _ => by rw [c38]))
                (try (have c38a : ∀ (t_ : TypeId) (v_ : Value), Instr.indexAt t_ v_ (.int .i64 x5_1) = Instr.indexAt t_ v_ (.int .i64 0) := fun _ _ => by rw [c38]))
                (try (have c38j22 : ∀ (W_ : World) (v0_ v1_ v2_ v3_ v4_ v5_ : Value), (Instr.index 22 (.agg #[v0_, v1_, v2_, v3_, v4_, v5_]) (.int .i64 0)).run Try.prog W_ = .ok v0_ W_ := by intros; kernel_rfl))
                (try (have c38j49 : ∀ (W_ : World) (v0_ v1_ v2_ v3_ v4_ v5_ v6_ v7_ : Value), (Instr.index 49 (.agg #[v0_, v1_, v2_, v3_, v4_, v5_, v6_, v7_]) (.int .i64 0)).run Try.prog W_ = .ok v0_ W_ := by intros; kernel_rfl))
                have c38b0 : (x5_1 == (0 : Int)) = true := beq_iff_eq.mpr c38
                have c38b1 : (x5_1 != (0 : Int)) = false := bne_eq_false_iff_eq.mpr c38
                clear c38
                have H' := Aside0.mk H
                clear H
                obtain ⟨i039, hi039, _, hsz39, _⟩ := info_parts info5
                obtain ⟨A39, hcut39, hA39, hC39⟩ := print_mid_of (P := Try.prog) (Value.int .u8) 0 25 5 .i64 .i64 Try.underlying25 hi039 hsz39 (some ad202) c0 l0 (ji33) (wrap64 (18 + (wrap64 (2 * x5_1)))) (of_decide_eq_true (by first | (with_reducible assumption) | assumption)) (by first | omega | exact of_decide_eq_true (by first | (with_reducible assumption) | assumption)) (of_decide_eq_true (by first | (with_reducible assumption) | assumption)) HC0.out
                have HR210 := Aside0.mk (Kd.C_of_reads (h1 := fun _ => rfl) (hA39 _ (Kd.reads_of_C HR0.out)))
                have HC210 := Aside0.mk hC39
                clear hA39 hC39 hi039 hsz39
                go_wp2_with (first | ((with_reducible refine gate_callee (f := 32) rfl ?_); refine goesL_ (some 42) rfl rfl Try.func32 (by kernel_rfl) rfl #[.slice A39 ((l0.take ((wrap64 (18 + (wrap64 (2 * x5_1)))) : Int).toNat).drop ((ji33) : Int).toNat).length (c0 - (ji33).toNat)] rfl (by (try simp only [List.map_toArray, List.map_cons, List.map_nil]); first | done | (rw [show ((l0.take ((wrap64 (18 + (wrap64 (2 * x5_1)))) : Int).toNat).drop ((ji33) : Int).toNat).length = ((wrap64 (18 + (wrap64 (2 * x5_1)))).toNat - (ji33).toNat) from (by rw [List.length_drop, List.length_take]; have h_ : ((wrap64 (18 + (wrap64 (2 * x5_1)))) : Int) ≤ (l0.length : Int) := of_decide_eq_true (by first | (with_reducible assumption) | assumption); omega)] <;> rfl) | (simp only [hji33]; rfl) | rfl | (simp only [List.length_drop, List.length_take]; rfl)) ?_; (with_reducible refine (leveeref01_Get.calls k1 _ _ ((l0.take ((wrap64 (18 + (wrap64 (2 * x5_1)))) : Int).toNat).drop ((ji33) : Int).toNat) t211 _ ?side1 ?side2 A37.out).mono ?_); (case side1 => repeat (first | exact (Kd.C_below HR210.out HB.out) | (with_reducible refine Kd.C_alloc ?_ _) | (with_reducible refine Kd.C_drewN ?_ _) | (with_reducible refine Kd.C_drew ?_))); (case side2 => exact HC210.out); rintro e w' ⟨rfl, ⟨nd, rfl⟩⟩; refine ⟨_, rfl, ?_⟩; (try (rw [drewN_self wr]; generalize hq_ : World.drewN wr _ = wr; have n0_ : Aside0 (wr.heap[gb201]? = some (.cells #[.int .i64 0, .int .i64 0, .int .i64 0, .int .i64 0, .int .i64 0, .int .i64 0, .int .i64 0, .int .i64 0, .int .i64 0, .int .i64 0, .int .i64 0, .int .i64 0] 24 (0, 0))) := ⟨by rw [← hq_]; exact (by (with_reducible repeat (first | refine blk_drewN ?_ _ | refine blk_drew ?_ | refine blk_alloc ?_ _)); exact BK201.out)⟩; have n1_ : Aside0 (wr.heap[gb209]? = some (.cells #[.int .i64 (wrap64 (rd l0 0)), .int .i64 (wrap64 (t204)), .int .i64 (wrap64 (t206)), .int .i64 (wrap64 (t208)), .int .i64 x210004_1, .int .i64 x210005_1, .int .i64 x210006_1, .int .i64 x210007_1, .int .i64 x210008_1, .int .i64 x210009_1, .int .i64 0, .int .i64 0] 24 (0, 0))) := ⟨by rw [← hq_]; exact (by (with_reducible repeat (first | refine blk_drewN ?_ _ | refine blk_drew ?_ | refine blk_alloc ?_ _)); exact BK209.out)⟩; have n2_ : Aside0 (Below w.heap.size w wr) := ⟨by rw [← hq_]; exact (by repeat (first | (with_reducible first | exact HB.out | apply below_alloc | apply pw_below_drewN | apply below_drew1 | refine below_set ?_ GE201.out | refine below_set ?_ GE209.out) | exact HB.out))⟩; clear BK201 BK209 HB hq_; have BK201 := n0_; have BK209 := n1_; have HB := n2_; clear n0_ n1_ n2_)); have hnb40 := NB209_201.out; have hnc40 := NB201_209.out; have q_ := cells12 BK209.out; have hcz41_0 := q_.c0; have hcz41_1 := q_.c1; have hcz41_2 := q_.c2; have hcz41_3 := q_.c3; have hcz41_4 := q_.c4; have hcz41_5 := q_.c5; have hcz41_6 := q_.c6; have hcz41_7 := q_.c7; have hcz41_8 := q_.c8; have hcz41_9 := q_.c9; have hcz41_10 := q_.c10; have hcz41_11 := q_.c11; have hfz41_0 := q_.f0; have hfz41_1 := q_.f1; have hfz41_2 := q_.f2; have hfz41_3 := q_.f3; have hfz41_4 := q_.f4; have hfz41_5 := q_.f5; have hfz41_6 := q_.f6; have hfz41_7 := q_.f7; have hfz41_8 := q_.f8; have hfz41_9 := q_.f9; have hfz41_10 := q_.f10; have hfz41_11 := q_.f11; clear q_))
                go_roundg k1
                case measure => have := HK1.out; omega
                case rel => exact ⟨(wrap64 (x5_1 + 1)), (wrap64 (t211)), (x210005_1), (x210006_1), (x210007_1), (x210008_1), (x210009_1), (by first | rfl | (simp; done) | (simp [*]; done) | (have hz_ := c38z.out; congr 1; unfold wrap64; omega)), H', ⟨by have := HK1.out; omega⟩, ⟨by (with_reducible repeat (first | refine blk_drewN ?_ _ | refine blk_drew ?_ | refine blk_alloc ?_ _)); refine blk_far ?_ NB201_209.out _; (with_reducible repeat (first | refine blk_drewN ?_ _ | refine blk_drew ?_ | refine blk_alloc ?_ _)); exact BK201.out⟩, ⟨by (with_reducible repeat (first | refine blk_drewN ?_ _ | refine blk_drew ?_ | refine blk_alloc ?_ _)); refine blk_put (cs := #[.int .i64 (wrap64 (rd l0 0)), .int .i64 (wrap64 (t204)), .int .i64 (wrap64 (t206)), .int .i64 (wrap64 (t208)), .int .i64 x210004_1, .int .i64 x210005_1, .int .i64 x210006_1, .int .i64 x210007_1, .int .i64 x210008_1, .int .i64 x210009_1, .int .i64 0, .int .i64 0]) ?_ 4 _ rfl; (with_reducible repeat (first | refine blk_drewN ?_ _ | refine blk_drew ?_ | refine blk_alloc ?_ _)); exact BK209.out⟩, ⟨by repeat (first | (with_reducible first | exact HB.out | apply below_alloc | apply pw_below_drewN | apply below_drew1 | refine below_set ?_ GE201.out | refine below_set ?_ GE209.out) | exact HB.out)⟩⟩
               ·rw [if_neg c38] at H
                have c38b0 : (x5_1 == (0 : Int)) = false := beq_eq_false_iff_ne.mpr c38
                have c38b1 : (x5_1 != (0 : Int)) = true := bne_iff_ne.mpr c38
                by_cases c42 : x5_1 = (1 : Int)
                ·rw [if_pos c42] at H
                 have c42z := Aside0.mk c42
                 (try (have c42i : ∀ (t_ : TypeId) (v_ : Value), Instr.index t_ v_ (.int .i64 x5_1) = Instr.index t_ v_ (.int .i64 1) := fun _ _ => by rw [c42]))
                 (try (have c42a : ∀ (t_ : TypeId) (v_ : Value), Instr.indexAt t_ v_ (.int .i64 x5_1) = Instr.indexAt t_ v_ (.int .i64 1) := fun _ _ => by rw [c42]))
                 (try (have c42j22 : ∀ (W_ : World) (v0_ v1_ v2_ v3_ v4_ v5_ : Value), (Instr.index 22 (.agg #[v0_, v1_, v2_, v3_, v4_, v5_]) (.int .i64 1)).run Try.prog W_ = .ok v1_ W_ := by intros; kernel_rfl))
                 (try (have c42j49 : ∀ (W_ : World) (v0_ v1_ v2_ v3_ v4_ v5_ v6_ v7_ : Value), (Instr.index 49 (.agg #[v0_, v1_, v2_, v3_, v4_, v5_, v6_, v7_]) (.int .i64 1)).run Try.prog W_ = .ok v1_ W_ := by intros; kernel_rfl))
                 have c42b0 : (x5_1 == (1 : Int)) = true := beq_iff_eq.mpr c42
                 have c42b1 : (x5_1 != (1 : Int)) = false := bne_eq_false_iff_eq.mpr c42
                 clear c42
                 have H' := Aside0.mk H
                 clear H
                 obtain ⟨i043, hi043, _, hsz43, _⟩ := info_parts info5
                 obtain ⟨A43, hcut43, hA43, hC43⟩ := print_mid_of (P := Try.prog) (Value.int .u8) 0 25 5 .i64 .i64 Try.underlying25 hi043 hsz43 (some ad202) c0 l0 (ji33) (wrap64 (18 + (wrap64 (2 * x5_1)))) (of_decide_eq_true (by first | (with_reducible assumption) | assumption)) (by first | omega | exact of_decide_eq_true (by first | (with_reducible assumption) | assumption)) (of_decide_eq_true (by first | (with_reducible assumption) | assumption)) HC0.out
                 have HR210 := Aside0.mk (Kd.C_of_reads (h1 := fun _ => rfl) (hA43 _ (Kd.reads_of_C HR0.out)))
                 have HC210 := Aside0.mk hC43
                 clear hA43 hC43 hi043 hsz43
                 go_wp2_with (first | ((with_reducible refine gate_callee (f := 32) rfl ?_); refine goesL_ (some 42) rfl rfl Try.func32 (by kernel_rfl) rfl #[.slice A43 ((l0.take ((wrap64 (18 + (wrap64 (2 * x5_1)))) : Int).toNat).drop ((ji33) : Int).toNat).length (c0 - (ji33).toNat)] rfl (by (try simp only [List.map_toArray, List.map_cons, List.map_nil]); first | done | (rw [show ((l0.take ((wrap64 (18 + (wrap64 (2 * x5_1)))) : Int).toNat).drop ((ji33) : Int).toNat).length = ((wrap64 (18 + (wrap64 (2 * x5_1)))).toNat - (ji33).toNat) from (by rw [List.length_drop, List.length_take]; have h_ : ((wrap64 (18 + (wrap64 (2 * x5_1)))) : Int) ≤ (l0.length : Int) := of_decide_eq_true (by first | (with_reducible assumption) | assumption); omega)] <;> rfl) | (simp only [hji33]; rfl) | rfl | (simp only [List.length_drop, List.length_take]; rfl)) ?_; (with_reducible refine (leveeref01_Get.calls k1 _ _ ((l0.take ((wrap64 (18 + (wrap64 (2 * x5_1)))) : Int).toNat).drop ((ji33) : Int).toNat) t211 _ ?side1 ?side2 A37.out).mono ?_); (case side1 => repeat (first | exact (Kd.C_below HR210.out HB.out) | (with_reducible refine Kd.C_alloc ?_ _) | (with_reducible refine Kd.C_drewN ?_ _) | (with_reducible refine Kd.C_drew ?_))); (case side2 => exact HC210.out); rintro e w' ⟨rfl, ⟨nd, rfl⟩⟩; refine ⟨_, rfl, ?_⟩; (try (rw [drewN_self wr]; generalize hq_ : World.drewN wr _ = wr; have n0_ : Aside0 (wr.heap[gb201]? = some (.cells #[.int .i64 0, .int .i64 0, .int .i64 0, .int .i64 0, .int .i64 0, .int .i64 0, .int .i64 0, .int .i64 0, .int .i64 0, .int .i64 0, .int .i64 0, .int .i64 0] 24 (0, 0))) := ⟨by rw [← hq_]; exact (by (with_reducible repeat (first | refine blk_drewN ?_ _ | refine blk_drew ?_ | refine blk_alloc ?_ _)); exact BK201.out)⟩; have n1_ : Aside0 (wr.heap[gb209]? = some (.cells #[.int .i64 (wrap64 (rd l0 0)), .int .i64 (wrap64 (t204)), .int .i64 (wrap64 (t206)), .int .i64 (wrap64 (t208)), .int .i64 x210004_1, .int .i64 x210005_1, .int .i64 x210006_1, .int .i64 x210007_1, .int .i64 x210008_1, .int .i64 x210009_1, .int .i64 0, .int .i64 0] 24 (0, 0))) := ⟨by rw [← hq_]; exact (by (with_reducible repeat (first | refine blk_drewN ?_ _ | refine blk_drew ?_ | refine blk_alloc ?_ _)); exact BK209.out)⟩; have n2_ : Aside0 (Below w.heap.size w wr) := ⟨by rw [← hq_]; exact (by repeat (first | (with_reducible first | exact HB.out | apply below_alloc | apply pw_below_drewN | apply below_drew1 | refine below_set ?_ GE201.out | refine below_set ?_ GE209.out) | exact HB.out))⟩; clear BK201 BK209 HB hq_; have BK201 := n0_; have BK209 := n1_; have HB := n2_; clear n0_ n1_ n2_)); have hnb44 := NB209_201.out; have hnc44 := NB201_209.out; have q_ := cells12 BK209.out; have hcz45_0 := q_.c0; have hcz45_1 := q_.c1; have hcz45_2 := q_.c2; have hcz45_3 := q_.c3; have hcz45_4 := q_.c4; have hcz45_5 := q_.c5; have hcz45_6 := q_.c6; have hcz45_7 := q_.c7; have hcz45_8 := q_.c8; have hcz45_9 := q_.c9; have hcz45_10 := q_.c10; have hcz45_11 := q_.c11; have hfz45_0 := q_.f0; have hfz45_1 := q_.f1; have hfz45_2 := q_.f2; have hfz45_3 := q_.f3; have hfz45_4 := q_.f4; have hfz45_5 := q_.f5; have hfz45_6 := q_.f6; have hfz45_7 := q_.f7; have hfz45_8 := q_.f8; have hfz45_9 := q_.f9; have hfz45_10 := q_.f10; have hfz45_11 := q_.f11; clear q_))
                 go_roundg k1
                 case measure => have := HK1.out; omega
                 case rel => exact ⟨(wrap64 (x5_1 + 1)), (x210004_1), (wrap64 (t211)), (x210006_1), (x210007_1), (x210008_1), (x210009_1), (by first | rfl | (simp; done) | (simp [*]; done) | (have hz_ := c42z.out; congr 1; unfold wrap64; omega)), H', ⟨by have := HK1.out; omega⟩, ⟨by (with_reducible repeat (first | refine blk_drewN ?_ _ | refine blk_drew ?_ | refine blk_alloc ?_ _)); refine blk_far ?_ NB201_209.out _; (with_reducible repeat (first | refine blk_drewN ?_ _ | refine blk_drew ?_ | refine blk_alloc ?_ _)); exact BK201.out⟩, ⟨by (with_reducible repeat (first | refine blk_drewN ?_ _ | refine blk_drew ?_ | refine blk_alloc ?_ _)); refine blk_put (cs := #[.int .i64 (wrap64 (rd l0 0)), .int .i64 (wrap64 (t204)), .int .i64 (wrap64 (t206)), .int .i64 (wrap64 (t208)), .int .i64 x210004_1, .int .i64 x210005_1, .int .i64 x210006_1, .int .i64 x210007_1, .int .i64 x210008_1, .int .i64 x210009_1, .int .i64 0, .int .i64 0]) ?_ 5 _ rfl; (with_reducible repeat (first | refine blk_drewN ?_ _ | refine blk_drew ?_ | refine blk_alloc ?_ _)); exact BK209.out⟩, ⟨by repeat (first | (with_reducible first | exact HB.out | apply below_alloc | apply pw_below_drewN | apply below_drew1 | refine below_set ?_ GE201.out | refine below_set ?_ GE209.out) | exact HB.out)⟩⟩
                ·rw [if_neg c42] at H
                 have c42b0 : (x5_1 == (1 : Int)) = false := beq_eq_false_iff_ne.mpr c42
                 have c42b1 : (x5_1 != (1 : Int)) = true := bne_iff_ne.mpr c42
                 by_cases c46 : x5_1 = (2 : Int)
                 ·rw [if_pos c46] at H
                  have c46z := Aside0.mk c46
                  (try (have c46i : ∀ (t_ : TypeId) (v_ : Value), Instr.index t_ v_ (.int .i64 x5_1) = Instr.index t_ v_ (.int .i64 2) := fun _ _ => by rw [c46]))
                  (try (have c46a : ∀ (t_ : TypeId) (v_ : Value), Instr.indexAt t_ v_ (.int .i64 x5_1) = Instr.indexAt t_ v_ (.int .i64 2) := fun _ _ => by rw [c46]))
                  (try (have c46j22 : ∀ (W_ : World) (v0_ v1_ v2_ v3_ v4_ v5_ : Value), (Instr.index 22 (.agg #[v0_, v1_, v2_, v3_, v4_, v5_]) (.int .i64 2)).run Try.prog W_ = .ok v2_ W_ := by intros; kernel_rfl))
                  (try (have c46j49 : ∀ (W_ : World) (v0_ v1_ v2_ v3_ v4_ v5_ v6_ v7_ : Value), (Instr.index 49 (.agg #[v0_, v1_, v2_, v3_, v4_, v5_, v6_, v7_]) (.int .i64 2)).run Try.prog W_ = .ok v2_ W_ := by intros; kernel_rfl))
                  have c46b0 : (x5_1 == (2 : Int)) = true := beq_iff_eq.mpr c46
                  have c46b1 : (x5_1 != (2 : Int)) = false := bne_eq_false_iff_eq.mpr c46
                  clear c46
                  have H' := Aside0.mk H
                  clear H
                  obtain ⟨i047, hi047, _, hsz47, _⟩ := info_parts info5
                  obtain ⟨A47, hcut47, hA47, hC47⟩ := print_mid_of (P := Try.prog) (Value.int .u8) 0 25 5 .i64 .i64 Try.underlying25 hi047 hsz47 (some ad202) c0 l0 (ji33) (wrap64 (18 + (wrap64 (2 * x5_1)))) (of_decide_eq_true (by first | (with_reducible assumption) | assumption)) (by first | omega | exact of_decide_eq_true (by first | (with_reducible assumption) | assumption)) (of_decide_eq_true (by first | (with_reducible assumption) | assumption)) HC0.out
                  have HR210 := Aside0.mk (Kd.C_of_reads (h1 := fun _ => rfl) (hA47 _ (Kd.reads_of_C HR0.out)))
                  have HC210 := Aside0.mk hC47
                  clear hA47 hC47 hi047 hsz47
                  go_wp2_with (first | ((with_reducible refine gate_callee (f := 32) rfl ?_); refine goesL_ (some 42) rfl rfl Try.func32 (by kernel_rfl) rfl #[.slice A47 ((l0.take ((wrap64 (18 + (wrap64 (2 * x5_1)))) : Int).toNat).drop ((ji33) : Int).toNat).length (c0 - (ji33).toNat)] rfl (by (try simp only [List.map_toArray, List.map_cons, List.map_nil]); first | done | (rw [show ((l0.take ((wrap64 (18 + (wrap64 (2 * x5_1)))) : Int).toNat).drop ((ji33) : Int).toNat).length = ((wrap64 (18 + (wrap64 (2 * x5_1)))).toNat - (ji33).toNat) from (by rw [List.length_drop, List.length_take]; have h_ : ((wrap64 (18 + (wrap64 (2 * x5_1)))) : Int) ≤ (l0.length : Int) := of_decide_eq_true (by first | (with_reducible assumption) | assumption); omega)] <;> rfl) | (simp only [hji33]; rfl) | rfl | (simp only [List.length_drop, List.length_take]; rfl)) ?_; (with_reducible refine (leveeref01_Get.calls k1 _ _ ((l0.take ((wrap64 (18 + (wrap64 (2 * x5_1)))) : Int).toNat).drop ((ji33) : Int).toNat) t211 _ ?side1 ?side2 A37.out).mono ?_); (case side1 => repeat (first | exact (Kd.C_below HR210.out HB.out) | (with_reducible refine Kd.C_alloc ?_ _) | (with_reducible refine Kd.C_drewN ?_ _) | (with_reducible refine Kd.C_drew ?_))); (case side2 => exact HC210.out); rintro e w' ⟨rfl, ⟨nd, rfl⟩⟩; refine ⟨_, rfl, ?_⟩; (try (rw [drewN_self wr]; generalize hq_ : World.drewN wr _ = wr; have n0_ : Aside0 (wr.heap[gb201]? = some (.cells #[.int .i64 0, .int .i64 0, .int .i64 0, .int .i64 0, .int .i64 0, .int .i64 0, .int .i64 0, .int .i64 0, .int .i64 0, .int .i64 0, .int .i64 0, .int .i64 0] 24 (0, 0))) := ⟨by rw [← hq_]; exact (by (with_reducible repeat (first | refine blk_drewN ?_ _ | refine blk_drew ?_ | refine blk_alloc ?_ _)); exact BK201.out)⟩; have n1_ : Aside0 (wr.heap[gb209]? = some (.cells #[.int .i64 (wrap64 (rd l0 0)), .int .i64 (wrap64 (t204)), .int .i64 (wrap64 (t206)), .int .i64 (wrap64 (t208)), .int .i64 x210004_1, .int .i64 x210005_1, .int .i64 x210006_1, .int .i64 x210007_1, .int .i64 x210008_1, .int .i64 x210009_1, .int .i64 0, .int .i64 0] 24 (0, 0))) := ⟨by rw [← hq_]; exact (by (with_reducible repeat (first | refine blk_drewN ?_ _ | refine blk_drew ?_ | refine blk_alloc ?_ _)); exact BK209.out)⟩; have n2_ : Aside0 (Below w.heap.size w wr) := ⟨by rw [← hq_]; exact (by repeat (first | (with_reducible first | exact HB.out | apply below_alloc | apply pw_below_drewN | apply below_drew1 | refine below_set ?_ GE201.out | refine below_set ?_ GE209.out) | exact HB.out))⟩; clear BK201 BK209 HB hq_; have BK201 := n0_; have BK209 := n1_; have HB := n2_; clear n0_ n1_ n2_)); have hnb48 := NB209_201.out; have hnc48 := NB201_209.out; have q_ := cells12 BK209.out; have hcz49_0 := q_.c0; have hcz49_1 := q_.c1; have hcz49_2 := q_.c2; have hcz49_3 := q_.c3; have hcz49_4 := q_.c4; have hcz49_5 := q_.c5; have hcz49_6 := q_.c6; have hcz49_7 := q_.c7; have hcz49_8 := q_.c8; have hcz49_9 := q_.c9; have hcz49_10 := q_.c10; have hcz49_11 := q_.c11; have hfz49_0 := q_.f0; have hfz49_1 := q_.f1; have hfz49_2 := q_.f2; have hfz49_3 := q_.f3; have hfz49_4 := q_.f4; have hfz49_5 := q_.f5; have hfz49_6 := q_.f6; have hfz49_7 := q_.f7; have hfz49_8 := q_.f8; have hfz49_9 := q_.f9; have hfz49_10 := q_.f10; have hfz49_11 := q_.f11; clear q_))
                  go_roundg k1
                  case measure => have := HK1.out; omega
                  case rel => exact ⟨(wrap64 (x5_1 + 1)), (x210004_1), (x210005_1), (wrap64 (t211)), (x210007_1), (x210008_1), (x210009_1), (by first | rfl | (simp; done) | (simp [*]; done) | (have hz_ := c46z.out; congr 1; unfold wrap64; omega)), H', ⟨by have := HK1.out; omega⟩, ⟨by (with_reducible repeat (first | refine blk_drewN ?_ _ | refine blk_drew ?_ | refine blk_alloc ?_ _)); refine blk_far ?_ NB201_209.out _; (with_reducible repeat (first | refine blk_drewN ?_ _ | refine blk_drew ?_ | refine blk_alloc ?_ _)); exact BK201.out⟩, ⟨by (with_reducible repeat (first | refine blk_drewN ?_ _ | refine blk_drew ?_ | refine blk_alloc ?_ _)); refine blk_put (cs := #[.int .i64 (wrap64 (rd l0 0)), .int .i64 (wrap64 (t204)), .int .i64 (wrap64 (t206)), .int .i64 (wrap64 (t208)), .int .i64 x210004_1, .int .i64 x210005_1, .int .i64 x210006_1, .int .i64 x210007_1, .int .i64 x210008_1, .int .i64 x210009_1, .int .i64 0, .int .i64 0]) ?_ 6 _ rfl; (with_reducible repeat (first | refine blk_drewN ?_ _ | refine blk_drew ?_ | refine blk_alloc ?_ _)); exact BK209.out⟩, ⟨by repeat (first | (with_reducible first | exact HB.out | apply below_alloc | apply pw_below_drewN | apply below_drew1 | refine below_set ?_ GE201.out | refine below_set ?_ GE209.out) | exact HB.out)⟩⟩
                 ·rw [if_neg c46] at H
                  have c46b0 : (x5_1 == (2 : Int)) = false := beq_eq_false_iff_ne.mpr c46
                  have c46b1 : (x5_1 != (2 : Int)) = true := bne_iff_ne.mpr c46
                  by_cases c50 : x5_1 = (3 : Int)
                  ·rw [if_pos c50] at H
                   have c50z := Aside0.mk c50
                   (try (have c50i : ∀ (t_ : TypeId) (v_ : Value), Instr.index t_ v_ (.int .i64 x5_1) = Instr.index t_ v_ (.int .i64 3) := fun _ _ => by rw [c50]))
                   (try (have c50a : ∀ (t_ : TypeId) (v_ : Value), Instr.indexAt t_ v_ (.int .i64 x5_1) = Instr.indexAt t_ v_ (.int .i64 3) := fun _ _ => by rw [c50]))
                   (try (have c50j22 : ∀ (W_ : World) (v0_ v1_ v2_ v3_ v4_ v5_ : Value), (Instr.index 22 (.agg #[v0_, v1_, v2_, v3_, v4_, v5_]) (.int .i64 3)).run Try.prog W_ = .ok v3_ W_ := by intros; kernel_rfl))
                   (try (have c50j49 : ∀ (W_ : World) (v0_ v1_ v2_ v3_ v4_ v5_ v6_ v7_ : Value), (Instr.index 49 (.agg #[v0_, v1_, v2_, v3_, v4_, v5_, v6_, v7_]) (.int .i64 3)).run Try.prog W_ = .ok v3_ W_ := by intros; kernel_rfl))
                   have c50b0 : (x5_1 == (3 : Int)) = true := beq_iff_eq.mpr c50
                   have c50b1 : (x5_1 != (3 : Int)) = false := bne_eq_false_iff_eq.mpr c50
                   clear c50
                   have H' := Aside0.mk H
                   clear H
                   obtain ⟨i051, hi051, _, hsz51, _⟩ := info_parts info5
                   obtain ⟨A51, hcut51, hA51, hC51⟩ := print_mid_of (P := Try.prog) (Value.int .u8) 0 25 5 .i64 .i64 Try.underlying25 hi051 hsz51 (some ad202) c0 l0 (ji33) (wrap64 (18 + (wrap64 (2 * x5_1)))) (of_decide_eq_true (by first | (with_reducible assumption) | assumption)) (by first | omega | exact of_decide_eq_true (by first | (with_reducible assumption) | assumption)) (of_decide_eq_true (by first | (with_reducible assumption) | assumption)) HC0.out
                   have HR210 := Aside0.mk (Kd.C_of_reads (h1 := fun _ => rfl) (hA51 _ (Kd.reads_of_C HR0.out)))
                   have HC210 := Aside0.mk hC51
                   clear hA51 hC51 hi051 hsz51
                   go_wp2_with (first | ((with_reducible refine gate_callee (f := 32) rfl ?_); refine goesL_ (some 42) rfl rfl Try.func32 (by kernel_rfl) rfl #[.slice A51 ((l0.take ((wrap64 (18 + (wrap64 (2 * x5_1)))) : Int).toNat).drop ((ji33) : Int).toNat).length (c0 - (ji33).toNat)] rfl (by (try simp only [List.map_toArray, List.map_cons, List.map_nil]); first | done | (rw [show ((l0.take ((wrap64 (18 + (wrap64 (2 * x5_1)))) : Int).toNat).drop ((ji33) : Int).toNat).length = ((wrap64 (18 + (wrap64 (2 * x5_1)))).toNat - (ji33).toNat) from (by rw [List.length_drop, List.length_take]; have h_ : ((wrap64 (18 + (wrap64 (2 * x5_1)))) : Int) ≤ (l0.length : Int) := of_decide_eq_true (by first | (with_reducible assumption) | assumption); omega)] <;> rfl) | (simp only [hji33]; rfl) | rfl | (simp only [List.length_drop, List.length_take]; rfl)) ?_; (with_reducible refine (leveeref01_Get.calls k1 _ _ ((l0.take ((wrap64 (18 + (wrap64 (2 * x5_1)))) : Int).toNat).drop ((ji33) : Int).toNat) t211 _ ?side1 ?side2 A37.out).mono ?_); (case side1 => repeat (first | exact (Kd.C_below HR210.out HB.out) | (with_reducible refine Kd.C_alloc ?_ _) | (with_reducible refine Kd.C_drewN ?_ _) | (with_reducible refine Kd.C_drew ?_))); (case side2 => exact HC210.out); rintro e w' ⟨rfl, ⟨nd, rfl⟩⟩; refine ⟨_, rfl, ?_⟩; (try (rw [drewN_self wr]; generalize hq_ : World.drewN wr _ = wr; have n0_ : Aside0 (wr.heap[gb201]? = some (.cells #[.int .i64 0, .int .i64 0, .int .i64 0, .int .i64 0, .int .i64 0, .int .i64 0, .int .i64 0, .int .i64 0, .int .i64 0, .int .i64 0, .int .i64 0, .int .i64 0] 24 (0, 0))) := ⟨by rw [← hq_]; exact (by (with_reducible repeat (first | refine blk_drewN ?_ _ | refine blk_drew ?_ | refine blk_alloc ?_ _)); exact BK201.out)⟩; have n1_ : Aside0 (wr.heap[gb209]? = some (.cells #[.int .i64 (wrap64 (rd l0 0)), .int .i64 (wrap64 (t204)), .int .i64 (wrap64 (t206)), .int .i64 (wrap64 (t208)), .int .i64 x210004_1, .int .i64 x210005_1, .int .i64 x210006_1, .int .i64 x210007_1, .int .i64 x210008_1, .int .i64 x210009_1, .int .i64 0, .int .i64 0] 24 (0, 0))) := ⟨by rw [← hq_]; exact (by (with_reducible repeat (first | refine blk_drewN ?_ _ | refine blk_drew ?_ | refine blk_alloc ?_ _)); exact BK209.out)⟩; have n2_ : Aside0 (Below w.heap.size w wr) := ⟨by rw [← hq_]; exact (by repeat (first | (with_reducible first | exact HB.out | apply below_alloc | apply pw_below_drewN | apply below_drew1 | refine below_set ?_ GE201.out | refine below_set ?_ GE209.out) | exact HB.out))⟩; clear BK201 BK209 HB hq_; have BK201 := n0_; have BK209 := n1_; have HB := n2_; clear n0_ n1_ n2_)); have hnb52 := NB209_201.out; have hnc52 := NB201_209.out; have q_ := cells12 BK209.out; have hcz53_0 := q_.c0; have hcz53_1 := q_.c1; have hcz53_2 := q_.c2; have hcz53_3 := q_.c3; have hcz53_4 := q_.c4; have hcz53_5 := q_.c5; have hcz53_6 := q_.c6; have hcz53_7 := q_.c7; have hcz53_8 := q_.c8; have hcz53_9 := q_.c9; have hcz53_10 := q_.c10; have hcz53_11 := q_.c11; have hfz53_0 := q_.f0; have hfz53_1 := q_.f1; have hfz53_2 := q_.f2; have hfz53_3 := q_.f3; have hfz53_4 := q_.f4; have hfz53_5 := q_.f5; have hfz53_6 := q_.f6; have hfz53_7 := q_.f7; have hfz53_8 := q_.f8; have hfz53_9 := q_.f9; have hfz53_10 := q_.f10; have hfz53_11 := q_.f11; clear q_))
                   go_roundg k1
                   case measure => have := HK1.out; omega
                   case rel => exact ⟨(wrap64 (x5_1 + 1)), (x210004_1), (x210005_1), (x210006_1), (wrap64 (t211)), (x210008_1), (x210009_1), (by first | rfl | (simp; done) | (simp [*]; done) | (have hz_ := c50z.out; congr 1; unfold wrap64; omega)), H', ⟨by have := HK1.out; omega⟩, ⟨by (with_reducible repeat (first | refine blk_drewN ?_ _ | refine blk_drew ?_ | refine blk_alloc ?_ _)); refine blk_far ?_ NB201_209.out _; (with_reducible repeat (first | refine blk_drewN ?_ _ | refine blk_drew ?_ | refine blk_alloc ?_ _)); exact BK201.out⟩, ⟨by (with_reducible repeat (first | refine blk_drewN ?_ _ | refine blk_drew ?_ | refine blk_alloc ?_ _)); refine blk_put (cs := #[.int .i64 (wrap64 (rd l0 0)), .int .i64 (wrap64 (t204)), .int .i64 (wrap64 (t206)), .int .i64 (wrap64 (t208)), .int .i64 x210004_1, .int .i64 x210005_1, .int .i64 x210006_1, .int .i64 x210007_1, .int .i64 x210008_1, .int .i64 x210009_1, .int .i64 0, .int .i64 0]) ?_ 7 _ rfl; (with_reducible repeat (first | refine blk_drewN ?_ _ | refine blk_drew ?_ | refine blk_alloc ?_ _)); exact BK209.out⟩, ⟨by repeat (first | (with_reducible first | exact HB.out | apply below_alloc | apply pw_below_drewN | apply below_drew1 | refine below_set ?_ GE201.out | refine below_set ?_ GE209.out) | exact HB.out)⟩⟩
                  ·rw [if_neg c50] at H
                   have c50b0 : (x5_1 == (3 : Int)) = false := beq_eq_false_iff_ne.mpr c50
                   have c50b1 : (x5_1 != (3 : Int)) = true := bne_iff_ne.mpr c50
                   by_cases c54 : x5_1 = (4 : Int)
                   ·rw [if_pos c54] at H
                    have c54z := Aside0.mk c54
                    (try (have c54i : ∀ (t_ : TypeId) (v_ : Value), Instr.index t_ v_ (.int .i64 x5_1) = Instr.index t_ v_ (.int .i64 4) := fun _ _ => by rw [c54]))
                    (try (have c54a : ∀ (t_ : TypeId) (v_ : Value), Instr.indexAt t_ v_ (.int .i64 x5_1) = Instr.indexAt t_ v_ (.int .i64 4) := fun _ _ => by rw [c54]))
                    (try (have c54j22 : ∀ (W_ : World) (v0_ v1_ v2_ v3_ v4_ v5_ : Value), (Instr.index 22 (.agg #[v0_, v1_, v2_, v3_, v4_, v5_]) (.int .i64 4)).run Try.prog W_ = .ok v4_ W_ := by intros; kernel_rfl))
                    (try (have c54j49 : ∀ (W_ : World) (v0_ v1_ v2_ v3_ v4_ v5_ v6_ v7_ : Value), (Instr.index 49 (.agg #[v0_, v1_, v2_, v3_, v4_, v5_, v6_, v7_]) (.int .i64 4)).run Try.prog W_ = .ok v4_ W_ := by intros; kernel_rfl))
                    have c54b0 : (x5_1 == (4 : Int)) = true := beq_iff_eq.mpr c54
                    have c54b1 : (x5_1 != (4 : Int)) = false := bne_eq_false_iff_eq.mpr c54
                    clear c54
                    have H' := Aside0.mk H
                    clear H
                    obtain ⟨i055, hi055, _, hsz55, _⟩ := info_parts info5
                    obtain ⟨A55, hcut55, hA55, hC55⟩ := print_mid_of (P := Try.prog) (Value.int .u8) 0 25 5 .i64 .i64 Try.underlying25 hi055 hsz55 (some ad202) c0 l0 (ji33) (wrap64 (18 + (wrap64 (2 * x5_1)))) (of_decide_eq_true (by first | (with_reducible assumption) | assumption)) (by first | omega | exact of_decide_eq_true (by first | (with_reducible assumption) | assumption)) (of_decide_eq_true (by first | (with_reducible assumption) | assumption)) HC0.out
                    have HR210 := Aside0.mk (Kd.C_of_reads (h1 := fun _ => rfl) (hA55 _ (Kd.reads_of_C HR0.out)))
                    have HC210 := Aside0.mk hC55
                    clear hA55 hC55 hi055 hsz55
                    go_wp2_with (first | ((with_reducible refine gate_callee (f := 32) rfl ?_); refine goesL_ (some 42) rfl rfl Try.func32 (by kernel_rfl) rfl #[.slice A55 ((l0.take ((wrap64 (18 + (wrap64 (2 * x5_1)))) : Int).toNat).drop ((ji33) : Int).toNat).length (c0 - (ji33).toNat)] rfl (by (try simp only [List.map_toArray, List.map_cons, List.map_nil]); first | done | (rw [show ((l0.take ((wrap64 (18 + (wrap64 (2 * x5_1)))) : Int).toNat).drop ((ji33) : Int).toNat).length = ((wrap64 (18 + (wrap64 (2 * x5_1)))).toNat - (ji33).toNat) from (by rw [List.length_drop, List.length_take]; have h_ : ((wrap64 (18 + (wrap64 (2 * x5_1)))) : Int) ≤ (l0.length : Int) := of_decide_eq_true (by first | (with_reducible assumption) | assumption); omega)] <;> rfl) | (simp only [hji33]; rfl) | rfl | (simp only [List.length_drop, List.length_take]; rfl)) ?_; (with_reducible refine (leveeref01_Get.calls k1 _ _ ((l0.take ((wrap64 (18 + (wrap64 (2 * x5_1)))) : Int).toNat).drop ((ji33) : Int).toNat) t211 _ ?side1 ?side2 A37.out).mono ?_); (case side1 => repeat (first | exact (Kd.C_below HR210.out HB.out) | (with_reducible refine Kd.C_alloc ?_ _) | (with_reducible refine Kd.C_drewN ?_ _) | (with_reducible refine Kd.C_drew ?_))); (case side2 => exact HC210.out); rintro e w' ⟨rfl, ⟨nd, rfl⟩⟩; refine ⟨_, rfl, ?_⟩; (try (rw [drewN_self wr]; generalize hq_ : World.drewN wr _ = wr; have n0_ : Aside0 (wr.heap[gb201]? = some (.cells #[.int .i64 0, .int .i64 0, .int .i64 0, .int .i64 0, .int .i64 0, .int .i64 0, .int .i64 0, .int .i64 0, .int .i64 0, .int .i64 0, .int .i64 0, .int .i64 0] 24 (0, 0))) := ⟨by rw [← hq_]; exact (by (with_reducible repeat (first | refine blk_drewN ?_ _ | refine blk_drew ?_ | refine blk_alloc ?_ _)); exact BK201.out)⟩; have n1_ : Aside0 (wr.heap[gb209]? = some (.cells #[.int .i64 (wrap64 (rd l0 0)), .int .i64 (wrap64 (t204)), .int .i64 (wrap64 (t206)), .int .i64 (wrap64 (t208)), .int .i64 x210004_1, .int .i64 x210005_1, .int .i64 x210006_1, .int .i64 x210007_1, .int .i64 x210008_1, .int .i64 x210009_1, .int .i64 0, .int .i64 0] 24 (0, 0))) := ⟨by rw [← hq_]; exact (by (with_reducible repeat (first | refine blk_drewN ?_ _ | refine blk_drew ?_ | refine blk_alloc ?_ _)); exact BK209.out)⟩; have n2_ : Aside0 (Below w.heap.size w wr) := ⟨by rw [← hq_]; exact (by repeat (first | (with_reducible first | exact HB.out | apply below_alloc | apply pw_below_drewN | apply below_drew1 | refine below_set ?_ GE201.out | refine below_set ?_ GE209.out) | exact HB.out))⟩; clear BK201 BK209 HB hq_; have BK201 := n0_; have BK209 := n1_; have HB := n2_; clear n0_ n1_ n2_)); have hnb56 := NB209_201.out; have hnc56 := NB201_209.out; have q_ := cells12 BK209.out; have hcz57_0 := q_.c0; have hcz57_1 := q_.c1; have hcz57_2 := q_.c2; have hcz57_3 := q_.c3; have hcz57_4 := q_.c4; have hcz57_5 := q_.c5; have hcz57_6 := q_.c6; have hcz57_7 := q_.c7; have hcz57_8 := q_.c8; have hcz57_9 := q_.c9; have hcz57_10 := q_.c10; have hcz57_11 := q_.c11; have hfz57_0 := q_.f0; have hfz57_1 := q_.f1; have hfz57_2 := q_.f2; have hfz57_3 := q_.f3; have hfz57_4 := q_.f4; have hfz57_5 := q_.f5; have hfz57_6 := q_.f6; have hfz57_7 := q_.f7; have hfz57_8 := q_.f8; have hfz57_9 := q_.f9; have hfz57_10 := q_.f10; have hfz57_11 := q_.f11; clear q_))
                    go_roundg k1
                    case measure => have := HK1.out; omega
                    case rel => exact ⟨(wrap64 (x5_1 + 1)), (x210004_1), (x210005_1), (x210006_1), (x210007_1), (wrap64 (t211)), (x210009_1), (by first | rfl | (simp; done) | (simp [*]; done) | (have hz_ := c54z.out; congr 1; unfold wrap64; omega)), H', ⟨by have := HK1.out; omega⟩, ⟨by (with_reducible repeat (first | refine blk_drewN ?_ _ | refine blk_drew ?_ | refine blk_alloc ?_ _)); refine blk_far ?_ NB201_209.out _; (with_reducible repeat (first | refine blk_drewN ?_ _ | refine blk_drew ?_ | refine blk_alloc ?_ _)); exact BK201.out⟩, ⟨by (with_reducible repeat (first | refine blk_drewN ?_ _ | refine blk_drew ?_ | refine blk_alloc ?_ _)); refine blk_put (cs := #[.int .i64 (wrap64 (rd l0 0)), .int .i64 (wrap64 (t204)), .int .i64 (wrap64 (t206)), .int .i64 (wrap64 (t208)), .int .i64 x210004_1, .int .i64 x210005_1, .int .i64 x210006_1, .int .i64 x210007_1, .int .i64 x210008_1, .int .i64 x210009_1, .int .i64 0, .int .i64 0]) ?_ 8 _ rfl; (with_reducible repeat (first | refine blk_drewN ?_ _ | refine blk_drew ?_ | refine blk_alloc ?_ _)); exact BK209.out⟩, ⟨by repeat (first | (with_reducible first | exact HB.out | apply below_alloc | apply pw_below_drewN | apply below_drew1 | refine below_set ?_ GE201.out | refine below_set ?_ GE209.out) | exact HB.out)⟩⟩
                   ·rw [if_neg c54] at H
                    have c54b0 : (x5_1 == (4 : Int)) = false := beq_eq_false_iff_ne.mpr c54
                    have c54b1 : (x5_1 != (4 : Int)) = true := bne_iff_ne.mpr c54
                    by_cases c58 : x5_1 = (5 : Int)
                    ·rw [if_pos c58] at H
                     have c58z := Aside0.mk c58
                     (try (have c58i : ∀ (t_ : TypeId) (v_ : Value), Instr.index t_ v_ (.int .i64 x5_1) = Instr.index t_ v_ (.int .i64 5) := fun _ _ => by rw [c58]))
                     (try (have c58a : ∀ (t_ : TypeId) (v_ : Value), Instr.indexAt t_ v_ (.int .i64 x5_1) = Instr.indexAt t_ v_ (.int .i64 5) := fun _ _ => by rw [c58]))
                     (try (have c58j22 : ∀ (W_ : World) (v0_ v1_ v2_ v3_ v4_ v5_ : Value), (Instr.index 22 (.agg #[v0_, v1_, v2_, v3_, v4_, v5_]) (.int .i64 5)).run Try.prog W_ = .ok v5_ W_ := by intros; kernel_rfl))
                     (try (have c58j49 : ∀ (W_ : World) (v0_ v1_ v2_ v3_ v4_ v5_ v6_ v7_ : Value), (Instr.index 49 (.agg #[v0_, v1_, v2_, v3_, v4_, v5_, v6_, v7_]) (.int .i64 5)).run Try.prog W_ = .ok v5_ W_ := by intros; kernel_rfl))
                     have c58b0 : (x5_1 == (5 : Int)) = true := beq_iff_eq.mpr c58
                     have c58b1 : (x5_1 != (5 : Int)) = false := bne_eq_false_iff_eq.mpr c58
                     clear c58
                     have H' := Aside0.mk H
                     clear H
                     obtain ⟨i059, hi059, _, hsz59, _⟩ := info_parts info5
                     obtain ⟨A59, hcut59, hA59, hC59⟩ := print_mid_of (P := Try.prog) (Value.int .u8) 0 25 5 .i64 .i64 Try.underlying25 hi059 hsz59 (some ad202) c0 l0 (ji33) (wrap64 (18 + (wrap64 (2 * x5_1)))) (of_decide_eq_true (by first | (with_reducible assumption) | assumption)) (by first | omega | exact of_decide_eq_true (by first | (with_reducible assumption) | assumption)) (of_decide_eq_true (by first | (with_reducible assumption) | assumption)) HC0.out
                     have HR210 := Aside0.mk (Kd.C_of_reads (h1 := fun _ => rfl) (hA59 _ (Kd.reads_of_C HR0.out)))
                     have HC210 := Aside0.mk hC59
                     clear hA59 hC59 hi059 hsz59
                     go_wp2_with (first | ((with_reducible refine gate_callee (f := 32) rfl ?_); refine goesL_ (some 42) rfl rfl Try.func32 (by kernel_rfl) rfl #[.slice A59 ((l0.take ((wrap64 (18 + (wrap64 (2 * x5_1)))) : Int).toNat).drop ((ji33) : Int).toNat).length (c0 - (ji33).toNat)] rfl (by (try simp only [List.map_toArray, List.map_cons, List.map_nil]); first | done | (rw [show ((l0.take ((wrap64 (18 + (wrap64 (2 * x5_1)))) : Int).toNat).drop ((ji33) : Int).toNat).length = ((wrap64 (18 + (wrap64 (2 * x5_1)))).toNat - (ji33).toNat) from (by rw [List.length_drop, List.length_take]; have h_ : ((wrap64 (18 + (wrap64 (2 * x5_1)))) : Int) ≤ (l0.length : Int) := of_decide_eq_true (by first | (with_reducible assumption) | assumption); omega)] <;> rfl) | (simp only [hji33]; rfl) | rfl | (simp only [List.length_drop, List.length_take]; rfl)) ?_; (with_reducible refine (leveeref01_Get.calls k1 _ _ ((l0.take ((wrap64 (18 + (wrap64 (2 * x5_1)))) : Int).toNat).drop ((ji33) : Int).toNat) t211 _ ?side1 ?side2 A37.out).mono ?_); (case side1 => repeat (first | exact (Kd.C_below HR210.out HB.out) | (with_reducible refine Kd.C_alloc ?_ _) | (with_reducible refine Kd.C_drewN ?_ _) | (with_reducible refine Kd.C_drew ?_))); (case side2 => exact HC210.out); rintro e w' ⟨rfl, ⟨nd, rfl⟩⟩; refine ⟨_, rfl, ?_⟩; (try (rw [drewN_self wr]; generalize hq_ : World.drewN wr _ = wr; have n0_ : Aside0 (wr.heap[gb201]? = some (.cells #[.int .i64 0, .int .i64 0, .int .i64 0, .int .i64 0, .int .i64 0, .int .i64 0, .int .i64 0, .int .i64 0, .int .i64 0, .int .i64 0, .int .i64 0, .int .i64 0] 24 (0, 0))) := ⟨by rw [← hq_]; exact (by (with_reducible repeat (first | refine blk_drewN ?_ _ | refine blk_drew ?_ | refine blk_alloc ?_ _)); exact BK201.out)⟩; have n1_ : Aside0 (wr.heap[gb209]? = some (.cells #[.int .i64 (wrap64 (rd l0 0)), .int .i64 (wrap64 (t204)), .int .i64 (wrap64 (t206)), .int .i64 (wrap64 (t208)), .int .i64 x210004_1, .int .i64 x210005_1, .int .i64 x210006_1, .int .i64 x210007_1, .int .i64 x210008_1, .int .i64 x210009_1, .int .i64 0, .int .i64 0] 24 (0, 0))) := ⟨by rw [← hq_]; exact (by (with_reducible repeat (first | refine blk_drewN ?_ _ | refine blk_drew ?_ | refine blk_alloc ?_ _)); exact BK209.out)⟩; have n2_ : Aside0 (Below w.heap.size w wr) := ⟨by rw [← hq_]; exact (by repeat (first | (with_reducible first | exact HB.out | apply below_alloc | apply pw_below_drewN | apply below_drew1 | refine below_set ?_ GE201.out | refine below_set ?_ GE209.out) | exact HB.out))⟩; clear BK201 BK209 HB hq_; have BK201 := n0_; have BK209 := n1_; have HB := n2_; clear n0_ n1_ n2_)); have hnb60 := NB209_201.out; have hnc60 := NB201_209.out; have q_ := cells12 BK209.out; have hcz61_0 := q_.c0; have hcz61_1 := q_.c1; have hcz61_2 := q_.c2; have hcz61_3 := q_.c3; have hcz61_4 := q_.c4; have hcz61_5 := q_.c5; have hcz61_6 := q_.c6; have hcz61_7 := q_.c7; have hcz61_8 := q_.c8; have hcz61_9 := q_.c9; have hcz61_10 := q_.c10; have hcz61_11 := q_.c11; have hfz61_0 := q_.f0; have hfz61_1 := q_.f1; have hfz61_2 := q_.f2; have hfz61_3 := q_.f3; have hfz61_4 := q_.f4; have hfz61_5 := q_.f5; have hfz61_6 := q_.f6; have hfz61_7 := q_.f7; have hfz61_8 := q_.f8; have hfz61_9 := q_.f9; have hfz61_10 := q_.f10; have hfz61_11 := q_.f11; clear q_))
                     go_roundg k1
                     case measure => have := HK1.out; omega
                     case rel => exact ⟨(wrap64 (x5_1 + 1)), (x210004_1), (x210005_1), (x210006_1), (x210007_1), (x210008_1), (wrap64 (t211)), (by first | rfl | (simp; done) | (simp [*]; done) | (have hz_ := c58z.out; congr 1; unfold wrap64; omega)), H', ⟨by have := HK1.out; omega⟩, ⟨by (with_reducible repeat (first | refine blk_drewN ?_ _ | refine blk_drew ?_ | refine blk_alloc ?_ _)); refine blk_far ?_ NB201_209.out _; (with_reducible repeat (first | refine blk_drewN ?_ _ | refine blk_drew ?_ | refine blk_alloc ?_ _)); exact BK201.out⟩, ⟨by (with_reducible repeat (first | refine blk_drewN ?_ _ | refine blk_drew ?_ | refine blk_alloc ?_ _)); refine blk_put (cs := #[.int .i64 (wrap64 (rd l0 0)), .int .i64 (wrap64 (t204)), .int .i64 (wrap64 (t206)), .int .i64 (wrap64 (t208)), .int .i64 x210004_1, .int .i64 x210005_1, .int .i64 x210006_1, .int .i64 x210007_1, .int .i64 x210008_1, .int .i64 x210009_1, .int .i64 0, .int .i64 0]) ?_ 9 _ rfl; (with_reducible repeat (first | refine blk_drewN ?_ _ | refine blk_drew ?_ | refine blk_alloc ?_ _)); exact BK209.out⟩, ⟨by repeat (first | (with_reducible first | exact HB.out | apply below_alloc | apply pw_below_drewN | apply below_drew1 | refine below_set ?_ GE201.out | refine below_set ?_ GE209.out) | exact HB.out)⟩⟩
                    ·rw [if_neg c58] at H
                     exact absurd H (by simp)
              ·rw [if_neg c36] at H
               exact absurd H (by simp)
             ·rw [if_neg c35] at H
              exact absurd H (by simp)
            ·rw [if_neg c34] at H
             exact absurd H (by simp)
           ·rw [if_neg c32] at H
            have c32b0 : decide (x5_1 < 6) = false := decide_eq_false c32
            clear c32
            by_cases c62 : 28 ≤ 30
            ·rw [if_pos c62] at H
             have c62b0 := eq_true c62
             have c62b1 : decide (28 ≤ 30) = true := decide_eq_true c62
             clear c62
             by_cases c63 : 30 ≤ (l0.length : Int)
             ·rw [if_pos c63] at H
              have c63b0 := eq_true c63
              have c63b1 : decide (30 ≤ (l0.length : Int)) = true := decide_eq_true c63
              clear c63
              replace H := Option.bind_eq_some_iff.mp H
              obtain ⟨t213, A640, H⟩ := H
              replace H : (if 30 ≤ 32 then (if 32 ≤ (l0.length : Int) then ((leveeref01_Get.f k1 ((l0.take 32).drop 30)).bind fun t215 => ((leveeref07_Put.f k1 (wrap64 (rd l0 0)) (wrap64 (t204)) (wrap64 (t206)) (wrap64 (t208)) x210004_1 x210005_1 x210006_1 x210007_1 x210008_1 x210009_1 (wrap64 (t213)) (wrap64 (t215))).bind fun bt216 => (if bt216.2 = 0 then (if (strOfNums bt216.1).toList = (strOfNums l0).toList then (some ((wrap64 (rd l0 0)), (wrap64 (t204)), (wrap64 (t206)), (wrap64 (t208)), x210004_1, x210005_1, x210006_1, x210007_1, x210008_1, x210009_1, wrap64 (t213), wrap64 (t215), 0)) else (some (0, 0, 0, 0, 0, 0, 0, 0, 0, 0, 0, 0, 8))) else (some (0, 0, 0, 0, 0, 0, 0, 0, 0, 0, 0, 0, 8))))) else (none)) else (none)) = some (r1, r2, r3, r4, r5, r6, r7, r8, r9, r10, r11, r12, r13) := H
              have A64 := Aside0.mk A640
              clear A640
              by_cases c65 : 30 ≤ 32
              ·rw [if_pos c65] at H
               have c65b0 := eq_true c65
               have c65b1 : decide (30 ≤ 32) = true := decide_eq_true c65
               clear c65
               by_cases c66 : 32 ≤ (l0.length : Int)
               ·rw [if_pos c66] at H
                have c66b0 := eq_true c66
                have c66b1 : decide (32 ≤ (l0.length : Int)) = true := decide_eq_true c66
                clear c66
                replace H := Option.bind_eq_some_iff.mp H
                obtain ⟨t215, A670, H⟩ := H
                replace H : ((leveeref07_Put.f k1 (wrap64 (rd l0 0)) (wrap64 (t204)) (wrap64 (t206)) (wrap64 (t208)) x210004_1 x210005_1 x210006_1 x210007_1 x210008_1 x210009_1 (wrap64 (t213)) (wrap64 (t215))).bind fun bt216 => (if bt216.2 = 0 then (if (strOfNums bt216.1).toList = (strOfNums l0).toList then (some ((wrap64 (rd l0 0)), (wrap64 (t204)), (wrap64 (t206)), (wrap64 (t208)), x210004_1, x210005_1, x210006_1, x210007_1, x210008_1, x210009_1, wrap64 (t213), wrap64 (t215), 0)) else (some (0, 0, 0, 0, 0, 0, 0, 0, 0, 0, 0, 0, 8))) else (some (0, 0, 0, 0, 0, 0, 0, 0, 0, 0, 0, 0, 8)))) = some (r1, r2, r3, r4, r5, r6, r7, r8, r9, r10, r11, r12, r13) := H
                have A67 := Aside0.mk A670
                clear A670
                replace H := Option.bind_eq_some_iff.mp H
                obtain ⟨⟨t216, t219⟩, A680, H⟩ := H
                replace H : (if t219 = 0 then (if (strOfNums t216).toList = (strOfNums l0).toList then (some ((wrap64 (rd l0 0)), (wrap64 (t204)), (wrap64 (t206)), (wrap64 (t208)), x210004_1, x210005_1, x210006_1, x210007_1, x210008_1, x210009_1, wrap64 (t213), wrap64 (t215), 0)) else (some (0, 0, 0, 0, 0, 0, 0, 0, 0, 0, 0, 0, 8))) else (some (0, 0, 0, 0, 0, 0, 0, 0, 0, 0, 0, 0, 8))) = some (r1, r2, r3, r4, r5, r6, r7, r8, r9, r10, r11, r12, r13) := H
                have A68 := Aside0.mk A680
                clear A680
                by_cases c69 : t219 = 0
                ·rw [if_pos c69] at H
                 have c69b0 : (t219 == 0) = true := beq_iff_eq.mpr c69
                 have c69b1 : (t219 != 0) = false := bne_eq_false_iff_eq.mpr c69
                 clear c69
                 by_cases c70 : (strOfNums t216).toList = (strOfNums l0).toList
                 ·rw [if_pos c70] at H
                  have c70b0 : ((strOfNums t216).toList == (strOfNums l0).toList) = true := beq_iff_eq.mpr c70
                  have c70b1 : ((strOfNums t216).toList != (strOfNums l0).toList) = false := bne_eq_false_iff_eq.mpr c70
                  clear c70
                  simp only [Option.some.injEq, Prod.mk.injEq] at H
                  obtain ⟨rfl, rfl, rfl, rfl, rfl, rfl, rfl, rfl, rfl, rfl, rfl, rfl, rfl⟩ := H
                  obtain ⟨i071, hi071, _, hsz71, _⟩ := info_parts info5
                  obtain ⟨A71, hcut71, hA71, hC71⟩ := print_mid_of (P := Try.prog) (Value.int .u8) 0 25 5 .i64 .i64 Try.underlying25 hi071 hsz71 (some ad202) c0 l0 28 30 (by omega) (by first | omega | exact of_decide_eq_true (by first | (with_reducible assumption) | assumption)) (of_decide_eq_true (by first | (with_reducible assumption) | assumption)) HC0.out
                  have HR212 := Aside0.mk (Kd.C_of_reads (h1 := fun _ => rfl) (hA71 _ (Kd.reads_of_C HR0.out)))
                  have HC212 := Aside0.mk hC71
                  clear hA71 hC71 hi071 hsz71
                  go_wp2_with (first | ((with_reducible refine gate_callee (f := 32) rfl ?_); refine goesL_ (some 48) rfl rfl Try.func32 (by kernel_rfl) rfl #[.slice A71 ((l0.take 30).drop 28).length (c0 - 28)] rfl (by (try simp only [List.map_toArray, List.map_cons, List.map_nil]); first | done | (rw [show ((l0.take 30).drop 28).length = (30 - 28) from (by rw [List.length_drop, List.length_take]; have h_ : (30 : Int) ≤ (l0.length : Int) := of_decide_eq_true (by first | (with_reducible assumption) | assumption); omega)] <;> rfl) | rfl | (simp only [List.length_drop, List.length_take]; rfl)) ?_; (with_reducible refine (leveeref01_Get.calls k1 _ _ ((l0.take 30).drop 28) t213 _ ?side1 ?side2 A64.out).mono ?_); (case side1 => repeat (first | exact (Kd.C_below HR212.out HB.out) | (with_reducible refine Kd.C_alloc ?_ _) | (with_reducible refine Kd.C_drewN ?_ _) | (with_reducible refine Kd.C_drew ?_))); (case side2 => exact HC212.out); rintro e w' ⟨rfl, ⟨nd, rfl⟩⟩; refine ⟨_, rfl, ?_⟩; (try (rw [drewN_self wr]; generalize hq_ : World.drewN wr _ = wr; have n0_ : Aside0 (wr.heap[gb201]? = some (.cells #[.int .i64 0, .int .i64 0, .int .i64 0, .int .i64 0, .int .i64 0, .int .i64 0, .int .i64 0, .int .i64 0, .int .i64 0, .int .i64 0, .int .i64 0, .int .i64 0] 24 (0, 0))) := ⟨by rw [← hq_]; exact (by (with_reducible repeat (first | refine blk_drewN ?_ _ | refine blk_drew ?_ | refine blk_alloc ?_ _)); exact BK201.out)⟩; have n1_ : Aside0 (wr.heap[gb209]? = some (.cells #[.int .i64 (wrap64 (rd l0 0)), .int .i64 (wrap64 (t204)), .int .i64 (wrap64 (t206)), .int .i64 (wrap64 (t208)), .int .i64 x210004_1, .int .i64 x210005_1, .int .i64 x210006_1, .int .i64 x210007_1, .int .i64 x210008_1, .int .i64 x210009_1, .int .i64 0, .int .i64 0] 24 (0, 0))) := ⟨by rw [← hq_]; exact (by (with_reducible repeat (first | refine blk_drewN ?_ _ | refine blk_drew ?_ | refine blk_alloc ?_ _)); exact BK209.out)⟩; have n2_ : Aside0 (Below w.heap.size w wr) := ⟨by rw [← hq_]; exact (by repeat (first | (with_reducible first | exact HB.out | apply below_alloc | apply pw_below_drewN | apply below_drew1 | refine below_set ?_ GE201.out | refine below_set ?_ GE209.out) | exact HB.out))⟩; clear BK201 BK209 HB hq_; have BK201 := n0_; have BK209 := n1_; have HB := n2_; clear n0_ n1_ n2_)); have hnb72 := NB209_201.out; have hnc72 := NB201_209.out; have q_ := cells12 BK209.out; have hcz73_0 := q_.c0; have hcz73_1 := q_.c1; have hcz73_2 := q_.c2; have hcz73_3 := q_.c3; have hcz73_4 := q_.c4; have hcz73_5 := q_.c5; have hcz73_6 := q_.c6; have hcz73_7 := q_.c7; have hcz73_8 := q_.c8; have hcz73_9 := q_.c9; have hcz73_10 := q_.c10; have hcz73_11 := q_.c11; have hfz73_0 := q_.f0; have hfz73_1 := q_.f1; have hfz73_2 := q_.f2; have hfz73_3 := q_.f3; have hfz73_4 := q_.f4; have hfz73_5 := q_.f5; have hfz73_6 := q_.f6; have hfz73_7 := q_.f7; have hfz73_8 := q_.f8; have hfz73_9 := q_.f9; have hfz73_10 := q_.f10; have hfz73_11 := q_.f11; clear q_; obtain ⟨i074, hi074, _, hsz74, _⟩ := info_parts info5; obtain ⟨A74, hcut74, hA74, hC74⟩ := print_mid_of (P := Try.prog) (Value.int .u8) 0 25 5 .i64 .i64 Try.underlying25 hi074 hsz74 (some ad202) c0 l0 30 32 (by omega) (by first | omega | exact of_decide_eq_true (by first | (with_reducible assumption) | assumption)) (of_decide_eq_true (by first | (with_reducible assumption) | assumption)) HC0.out; have HR214 := Aside0.mk (Kd.C_of_reads (h1 := fun _ => rfl) (hA74 _ (Kd.reads_of_C HR0.out))); have HC214 := Aside0.mk hC74; clear hA74 hC74 hi074 hsz74) | ((with_reducible refine gate_callee (f := 32) rfl ?_); refine goesL_ (some 53) rfl rfl Try.func32 (by kernel_rfl) rfl #[.slice A74 ((l0.take 32).drop 30).length (c0 - 30)] rfl (by (try simp only [List.map_toArray, List.map_cons, List.map_nil]); first | done | (rw [show ((l0.take 32).drop 30).length = (32 - 30) from (by rw [List.length_drop, List.length_take]; have h_ : (32 : Int) ≤ (l0.length : Int) := of_decide_eq_true (by first | (with_reducible assumption) | assumption); omega)] <;> rfl) | rfl | (simp only [List.length_drop, List.length_take]; rfl)) ?_; (with_reducible refine (leveeref01_Get.calls k1 _ _ ((l0.take 32).drop 30) t215 _ ?side1 ?side2 A67.out).mono ?_); (case side1 => exact Kd.C_below HR214.out (by repeat (first | (with_reducible first | exact HB.out | apply below_alloc | apply pw_below_drewN | apply below_drew1 | refine below_set ?_ GE201.out | refine below_set ?_ GE209.out) | exact HB.out))); (case side2 => exact HC214.out); rintro e w' ⟨rfl, ⟨nd, rfl⟩⟩; refine ⟨_, rfl, ?_⟩) | ((with_reducible refine gate_callee (f := 7) rfl ?_); refine goesL_ (some 58) rfl rfl Try.func7 (by kernel_rfl) rfl #[.agg #[.int .i64 (wrap64 (rd l0 0)), .int .i64 (wrap64 (t204)), .int .i64 (wrap64 (t206)), .int .i64 (wrap64 (t208)), .int .i64 x210004_1, .int .i64 x210005_1, .int .i64 x210006_1, .int .i64 x210007_1, .int .i64 x210008_1, .int .i64 x210009_1, .int .i64 (wrap64 (t213)), .int .i64 (wrap64 (t215))]] rfl (by (try simp only [List.map_toArray, List.map_cons, List.map_nil]); first | done | rfl | (simp only [List.length_drop, List.length_take]; rfl)) ?_; (with_reducible refine (leveeref07_Put.calls k1 (wrap64 (rd l0 0)) (wrap64 (t204)) (wrap64 (t206)) (wrap64 (t208)) x210004_1 x210005_1 x210006_1 x210007_1 x210008_1 x210009_1 (wrap64 (t213)) (wrap64 (t215)) t216 t219 _ A68.out).mono ?_); rintro e w75 ⟨v217, rfl, ho0, hb⟩; refine ⟨_, rfl, ?_⟩; have n0_ := Aside0.mk (Kd.R_lower ho0 (below_size (by repeat (first | (with_reducible first | exact HB.out | apply below_alloc | apply pw_below_drewN | apply below_drew1 | refine below_set ?_ GE201.out | refine below_set ?_ GE209.out) | exact HB.out)))); have n1_ := Aside0.mk (blk_below (g := gb201) (o := .cells #[.int .i64 0, .int .i64 0, .int .i64 0, .int .i64 0, .int .i64 0, .int .i64 0, .int .i64 0, .int .i64 0, .int .i64 0, .int .i64 0, .int .i64 0, .int .i64 0] 24 (0, 0)) (by (with_reducible repeat (first | refine blk_drewN ?_ _ | refine blk_drew ?_ | refine blk_alloc ?_ _)); refine blk_far ?_ NB201_209.out _; (with_reducible repeat (first | refine blk_drewN ?_ _ | refine blk_drew ?_ | refine blk_alloc ?_ _)); refine blk_far ?_ NB201_209.out _; (with_reducible repeat (first | refine blk_drewN ?_ _ | refine blk_drew ?_ | refine blk_alloc ?_ _)); exact BK201.out) hb); have n2_ := Aside0.mk (blk_below (g := gb209) (o := .cells #[.int .i64 (wrap64 (rd l0 0)), .int .i64 (wrap64 (t204)), .int .i64 (wrap64 (t206)), .int .i64 (wrap64 (t208)), .int .i64 x210004_1, .int .i64 x210005_1, .int .i64 x210006_1, .int .i64 x210007_1, .int .i64 x210008_1, .int .i64 x210009_1, .int .i64 (wrap64 (t213)), .int .i64 (wrap64 (t215))] 24 (0, 0)) (by (with_reducible repeat (first | refine blk_drewN ?_ _ | refine blk_drew ?_ | refine blk_alloc ?_ _)); refine blk_put (cs := #[.int .i64 (wrap64 (rd l0 0)), .int .i64 (wrap64 (t204)), .int .i64 (wrap64 (t206)), .int .i64 (wrap64 (t208)), .int .i64 x210004_1, .int .i64 x210005_1, .int .i64 x210006_1, .int .i64 x210007_1, .int .i64 x210008_1, .int .i64 x210009_1, .int .i64 (wrap64 (t213)), .int .i64 0]) ?_ 11 _ rfl; (with_reducible repeat (first | refine blk_drewN ?_ _ | refine blk_drew ?_ | refine blk_alloc ?_ _)); refine blk_put (cs := #[.int .i64 (wrap64 (rd l0 0)), .int .i64 (wrap64 (t204)), .int .i64 (wrap64 (t206)), .int .i64 (wrap64 (t208)), .int .i64 x210004_1, .int .i64 x210005_1, .int .i64 x210006_1, .int .i64 x210007_1, .int .i64 x210008_1, .int .i64 x210009_1, .int .i64 0, .int .i64 0]) ?_ 10 _ rfl; (with_reducible repeat (first | refine blk_drewN ?_ _ | refine blk_drew ?_ | refine blk_alloc ?_ _)); exact BK209.out) hb); have n3_ := Aside0.mk (below_step (by repeat (first | (with_reducible first | exact HB.out | apply below_alloc | apply pw_below_drewN | apply below_drew1 | refine below_set ?_ GE201.out | refine below_set ?_ GE209.out) | exact HB.out)) hb); clear BK201; clear BK209; clear HB; have HO218 := n0_; have BK201 := n1_; have BK209 := n2_; have HB := n3_; clear n0_ n1_ n2_ n3_; (try clear hb); (try clear hb2); (try clear hk); (try clear hi); (try clear ho0); have hcv76 := own_string (P := Try.prog) Try.underlying25 Try.underlying5 Try.underlying9 (Kd.own_of_R HO218.out); have hcv77 := Kd.C_string (P := Try.prog) (A := (some ad202)) (c := c0) Try.underlying25 Try.underlying5 Try.underlying9 (Kd.C_below HR0.out HB.out); have q_ := cells12 BK209.out; have hcz78_0 := q_.c0; have hcz78_1 := q_.c1; have hcz78_2 := q_.c2; have hcz78_3 := q_.c3; have hcz78_4 := q_.c4; have hcz78_5 := q_.c5; have hcz78_6 := q_.c6; have hcz78_7 := q_.c7; have hcz78_8 := q_.c8; have hcz78_9 := q_.c9; have hcz78_10 := q_.c10; have hcz78_11 := q_.c11; have hfz78_0 := q_.f0; have hfz78_1 := q_.f1; have hfz78_2 := q_.f2; have hfz78_3 := q_.f3; have hfz78_4 := q_.f4; have hfz78_5 := q_.f5; have hfz78_6 := q_.f6; have hfz78_7 := q_.f7; have hfz78_8 := q_.f8; have hfz78_9 := q_.f9; have hfz78_10 := q_.f10; have hfz78_11 := q_.f11; clear q_; have q_ := cells12 BK201.out; have hcz79_0 := q_.c0; have hcz79_1 := q_.c1; have hcz79_2 := q_.c2; have hcz79_3 := q_.c3; have hcz79_4 := q_.c4; have hcz79_5 := q_.c5; have hcz79_6 := q_.c6; have hcz79_7 := q_.c7; have hcz79_8 := q_.c8; have hcz79_9 := q_.c9; have hcz79_10 := q_.c10; have hcz79_11 := q_.c11; have hfz79_0 := q_.f0; have hfz79_1 := q_.f1; have hfz79_2 := q_.f2; have hfz79_3 := q_.f3; have hfz79_4 := q_.f4; have hfz79_5 := q_.f5; have hfz79_6 := q_.f6; have hfz79_7 := q_.f7; have hfz79_8 := q_.f8; have hfz79_9 := q_.f9; have hfz79_10 := q_.f10; have hfz79_11 := q_.f11; clear q_))
                  refine bodyPost_ret (results_ct rfl _ _ gb201 24 #[.int .i64 (wrap64 (rd l0 0)), .int .i64 (wrap64 (t204)), .int .i64 (wrap64 (t206)), .int .i64 (wrap64 (t208)), .int .i64 x210004_1, .int .i64 x210005_1, .int .i64 x210006_1, .int .i64 x210007_1, .int .i64 x210008_1, .int .i64 x210009_1, .int .i64 (wrap64 (t213)), .int .i64 (wrap64 (t215))] (0, 0) _ rfl (by (with_reducible repeat (first | refine blk_drewN ?_ _ | refine blk_drew ?_ | refine blk_alloc ?_ _)); refine blk_put12 (.int .i64 0) (.int .i64 0) (.int .i64 0) (.int .i64 0) (.int .i64 0) (.int .i64 0) (.int .i64 0) (.int .i64 0) (.int .i64 0) (.int .i64 0) (.int .i64 0) (.int .i64 0) ?_; (with_reducible repeat (first | refine blk_drewN ?_ _ | refine blk_drew ?_ | refine blk_alloc ?_ _)); exact BK201.out) Try.underlying24 rfl (by kernel_rfl)) rfl ?_
                  exact ⟨by first | rfl | (simp [errW_none, errW_some] <;> rfl) | (simp [*, errW_none, errW_some] <;> rfl), by repeat (first | (with_reducible first | exact HB.out | apply below_alloc | apply pw_below_drewN | apply below_drew1 | refine below_set ?_ GE201.out | refine below_set ?_ GE209.out) | exact HB.out)⟩
                 ·rw [if_neg c70] at H
                  have c70b0 : ((strOfNums t216).toList == (strOfNums l0).toList) = false := beq_eq_false_iff_ne.mpr c70
                  have c70b1 : ((strOfNums t216).toList != (strOfNums l0).toList) = true := bne_iff_ne.mpr c70
                  simp only [Option.some.injEq, Prod.mk.injEq] at H
                  obtain ⟨rfl, rfl, rfl, rfl, rfl, rfl, rfl, rfl, rfl, rfl, rfl, rfl, rfl⟩ := H
                  obtain ⟨i080, hi080, _, hsz80, _⟩ := info_parts info5
                  obtain ⟨A80, hcut80, hA80, hC80⟩ := print_mid_of (P := Try.prog) (Value.int .u8) 0 25 5 .i64 .i64 Try.underlying25 hi080 hsz80 (some ad202) c0 l0 28 30 (by omega) (by first | omega | exact of_decide_eq_true (by first | (with_reducible assumption) | assumption)) (of_decide_eq_true (by first | (with_reducible assumption) | assumption)) HC0.out
                  have HR212 := Aside0.mk (Kd.C_of_reads (h1 := fun _ => rfl) (hA80 _ (Kd.reads_of_C HR0.out)))
                  have HC212 := Aside0.mk hC80
                  clear hA80 hC80 hi080 hsz80
                  go_wp2_with (first | ((with_reducible refine gate_callee (f := 32) rfl ?_); refine goesL_ (some 48) rfl rfl Try.func32 (by kernel_rfl) rfl #[.slice A80 ((l0.take 30).drop 28).length (c0 - 28)] rfl (by (try simp only [List.map_toArray, List.map_cons, List.map_nil]); first | done | (rw [show ((l0.take 30).drop 28).length = (30 - 28) from (by rw [List.length_drop, List.length_take]; have h_ : (30 : Int) ≤ (l0.length : Int) := of_decide_eq_true (by first | (with_reducible assumption) | assumption); omega)] <;> rfl) | rfl | (simp only [List.length_drop, List.length_take]; rfl)) ?_; (with_reducible refine (leveeref01_Get.calls k1 _ _ ((l0.take 30).drop 28) t213 _ ?side1 ?side2 A64.out).mono ?_); (case side1 => repeat (first | exact (Kd.C_below HR212.out HB.out) | (with_reducible refine Kd.C_alloc ?_ _) | (with_reducible refine Kd.C_drewN ?_ _) | (with_reducible refine Kd.C_drew ?_))); (case side2 => exact HC212.out); rintro e w' ⟨rfl, ⟨nd, rfl⟩⟩; refine ⟨_, rfl, ?_⟩; (try (rw [drewN_self wr]; generalize hq_ : World.drewN wr _ = wr; have n0_ : Aside0 (wr.heap[gb201]? = some (.cells #[.int .i64 0, .int .i64 0, .int .i64 0, .int .i64 0, .int .i64 0, .int .i64 0, .int .i64 0, .int .i64 0, .int .i64 0, .int .i64 0, .int .i64 0, .int .i64 0] 24 (0, 0))) := ⟨by rw [← hq_]; exact (by (with_reducible repeat (first | refine blk_drewN ?_ _ | refine blk_drew ?_ | refine blk_alloc ?_ _)); exact BK201.out)⟩; have n1_ : Aside0 (wr.heap[gb209]? = some (.cells #[.int .i64 (wrap64 (rd l0 0)), .int .i64 (wrap64 (t204)), .int .i64 (wrap64 (t206)), .int .i64 (wrap64 (t208)), .int .i64 x210004_1, .int .i64 x210005_1, .int .i64 x210006_1, .int .i64 x210007_1, .int .i64 x210008_1, .int .i64 x210009_1, .int .i64 0, .int .i64 0] 24 (0, 0))) := ⟨by rw [← hq_]; exact (by (with_reducible repeat (first | refine blk_drewN ?_ _ | refine blk_drew ?_ | refine blk_alloc ?_ _)); exact BK209.out)⟩; have n2_ : Aside0 (Below w.heap.size w wr) := ⟨by rw [← hq_]; exact (by repeat (first | (with_reducible first | exact HB.out | apply below_alloc | apply pw_below_drewN | apply below_drew1 | refine below_set ?_ GE201.out | refine below_set ?_ GE209.out) | exact HB.out))⟩; clear BK201 BK209 HB hq_; have BK201 := n0_; have BK209 := n1_; have HB := n2_; clear n0_ n1_ n2_)); have hnb81 := NB209_201.out; have hnc81 := NB201_209.out; have q_ := cells12 BK209.out; have hcz82_0 := q_.c0; have hcz82_1 := q_.c1; have hcz82_2 := q_.c2; have hcz82_3 := q_.c3; have hcz82_4 := q_.c4; have hcz82_5 := q_.c5; have hcz82_6 := q_.c6; have hcz82_7 := q_.c7; have hcz82_8 := q_.c8; have hcz82_9 := q_.c9; have hcz82_10 := q_.c10; have hcz82_11 := q_.c11; have hfz82_0 := q_.f0; have hfz82_1 := q_.f1; have hfz82_2 := q_.f2; have hfz82_3 := q_.f3; have hfz82_4 := q_.f4; have hfz82_5 := q_.f5; have hfz82_6 := q_.f6; have hfz82_7 := q_.f7; have hfz82_8 := q_.f8; have hfz82_9 := q_.f9; have hfz82_10 := q_.f10; have hfz82_11 := q_.f11; clear q_; obtain ⟨i083, hi083, _, hsz83, _⟩ := info_parts info5; obtain ⟨A83, hcut83, hA83, hC83⟩ := print_mid_of (P := Try.prog) (Value.int .u8) 0 25 5 .i64 .i64 Try.underlying25 hi083 hsz83 (some ad202) c0 l0 30 32 (by omega) (by first | omega | exact of_decide_eq_true (by first | (with_reducible assumption) | assumption)) (of_decide_eq_true (by first | (with_reducible assumption) | assumption)) HC0.out; have HR214 := Aside0.mk (Kd.C_of_reads (h1 := fun _ => rfl) (hA83 _ (Kd.reads_of_C HR0.out))); have HC214 := Aside0.mk hC83; clear hA83 hC83 hi083 hsz83) | ((with_reducible refine gate_callee (f := 32) rfl ?_); refine goesL_ (some 53) rfl rfl Try.func32 (by kernel_rfl) rfl #[.slice A83 ((l0.take 32).drop 30).length (c0 - 30)] rfl (by (try simp only [List.map_toArray, List.map_cons, List.map_nil]); first | done | (rw [show ((l0.take 32).drop 30).length = (32 - 30) from (by rw [List.length_drop, List.length_take]; have h_ : (32 : Int) ≤ (l0.length : Int) := of_decide_eq_true (by first | (with_reducible assumption) | assumption); omega)] <;> rfl) | rfl | (simp only [List.length_drop, List.length_take]; rfl)) ?_; (with_reducible refine (leveeref01_Get.calls k1 _ _ ((l0.take 32).drop 30) t215 _ ?side1 ?side2 A67.out).mono ?_); (case side1 => exact Kd.C_below HR214.out (by repeat (first | (with_reducible first | exact HB.out | apply below_alloc | apply pw_below_drewN | apply below_drew1 | refine below_set ?_ GE201.out | refine below_set ?_ GE209.out) | exact HB.out))); (case side2 => exact HC214.out); rintro e w' ⟨rfl, ⟨nd, rfl⟩⟩; refine ⟨_, rfl, ?_⟩) | ((with_reducible refine gate_callee (f := 7) rfl ?_); refine goesL_ (some 58) rfl rfl Try.func7 (by kernel_rfl) rfl #[.agg #[.int .i64 (wrap64 (rd l0 0)), .int .i64 (wrap64 (t204)), .int .i64 (wrap64 (t206)), .int .i64 (wrap64 (t208)), .int .i64 x210004_1, .int .i64 x210005_1, .int .i64 x210006_1, .int .i64 x210007_1, .int .i64 x210008_1, .int .i64 x210009_1, .int .i64 (wrap64 (t213)), .int .i64 (wrap64 (t215))]] rfl (by (try simp only [List.map_toArray, List.map_cons, List.map_nil]); first | done | rfl | (simp only [List.length_drop, List.length_take]; rfl)) ?_; (with_reducible refine (leveeref07_Put.calls k1 (wrap64 (rd l0 0)) (wrap64 (t204)) (wrap64 (t206)) (wrap64 (t208)) x210004_1 x210005_1 x210006_1 x210007_1 x210008_1 x210009_1 (wrap64 (t213)) (wrap64 (t215)) t216 t219 _ A68.out).mono ?_); rintro e w84 ⟨v217, rfl, ho0, hb⟩; refine ⟨_, rfl, ?_⟩; have n0_ := Aside0.mk (Kd.R_lower ho0 (below_size (by repeat (first | (with_reducible first | exact HB.out | apply below_alloc | apply pw_below_drewN | apply below_drew1 | refine below_set ?_ GE201.out | refine below_set ?_ GE209.out) | exact HB.out)))); have n1_ := Aside0.mk (blk_below (g := gb201) (o := .cells #[.int .i64 0, .int .i64 0, .int .i64 0, .int .i64 0, .int .i64 0, .int .i64 0, .int .i64 0, .int .i64 0, .int .i64 0, .int .i64 0, .int .i64 0, .int .i64 0] 24 (0, 0)) (by (with_reducible repeat (first | refine blk_drewN ?_ _ | refine blk_drew ?_ | refine blk_alloc ?_ _)); refine blk_far ?_ NB201_209.out _; (with_reducible repeat (first | refine blk_drewN ?_ _ | refine blk_drew ?_ | refine blk_alloc ?_ _)); refine blk_far ?_ NB201_209.out _; (with_reducible repeat (first | refine blk_drewN ?_ _ | refine blk_drew ?_ | refine blk_alloc ?_ _)); exact BK201.out) hb); have n2_ := Aside0.mk (blk_below (g := gb209) (o := .cells #[.int .i64 (wrap64 (rd l0 0)), .int .i64 (wrap64 (t204)), .int .i64 (wrap64 (t206)), .int .i64 (wrap64 (t208)), .int .i64 x210004_1, .int .i64 x210005_1, .int .i64 x210006_1, .int .i64 x210007_1, .int .i64 x210008_1, .int .i64 x210009_1, .int .i64 (wrap64 (t213)), .int .i64 (wrap64 (t215))] 24 (0, 0)) (by (with_reducible repeat (first | refine blk_drewN ?_ _ | refine blk_drew ?_ | refine blk_alloc ?_ _)); refine blk_put (cs := #[.int .i64 (wrap64 (rd l0 0)), .int .i64 (wrap64 (t204)), .int .i64 (wrap64 (t206)), .int .i64 (wrap64 (t208)), .int .i64 x210004_1, .int .i64 x210005_1, .int .i64 x210006_1, .int .i64 x210007_1, .int .i64 x210008_1, .int .i64 x210009_1, .int .i64 (wrap64 (t213)), .int .i64 0]) ?_ 11 _ rfl; (with_reducible repeat (first | refine blk_drewN ?_ _ | refine blk_drew ?_ | refine blk_alloc ?_ _)); refine blk_put (cs := #[.int .i64 (wrap64 (rd l0 0)), .int .i64 (wrap64 (t204)), .int .i64 (wrap64 (t206)), .int .i64 (wrap64 (t208)), .int .i64 x210004_1, .int .i64 x210005_1, .int .i64 x210006_1, .int .i64 x210007_1, .int .i64 x210008_1, .int .i64 x210009_1, .int .i64 0, .int .i64 0]) ?_ 10 _ rfl; (with_reducible repeat (first | refine blk_drewN ?_ _ | refine blk_drew ?_ | refine blk_alloc ?_ _)); exact BK209.out) hb); have n3_ := Aside0.mk (below_step (by repeat (first | (with_reducible first | exact HB.out | apply below_alloc | apply pw_below_drewN | apply below_drew1 | refine below_set ?_ GE201.out | refine below_set ?_ GE209.out) | exact HB.out)) hb); clear BK201; clear BK209; clear HB; have HO218 := n0_; have BK201 := n1_; have BK209 := n2_; have HB := n3_; clear n0_ n1_ n2_ n3_; (try clear hb); (try clear hb2); (try clear hk); (try clear hi); (try clear ho0); have hcv85 := own_string (P := Try.prog) Try.underlying25 Try.underlying5 Try.underlying9 (Kd.own_of_R HO218.out); have hcv86 := Kd.C_string (P := Try.prog) (A := (some ad202)) (c := c0) Try.underlying25 Try.underlying5 Try.underlying9 (Kd.C_below HR0.out HB.out); have q_ := cells12 BK201.out; have hcz87_0 := q_.c0; have hcz87_1 := q_.c1; have hcz87_2 := q_.c2; have hcz87_3 := q_.c3; have hcz87_4 := q_.c4; have hcz87_5 := q_.c5; have hcz87_6 := q_.c6; have hcz87_7 := q_.c7; have hcz87_8 := q_.c8; have hcz87_9 := q_.c9; have hcz87_10 := q_.c10; have hcz87_11 := q_.c11; have hfz87_0 := q_.f0; have hfz87_1 := q_.f1; have hfz87_2 := q_.f2; have hfz87_3 := q_.f3; have hfz87_4 := q_.f4; have hfz87_5 := q_.f5; have hfz87_6 := q_.f6; have hfz87_7 := q_.f7; have hfz87_8 := q_.f8; have hfz87_9 := q_.f9; have hfz87_10 := q_.f10; have hfz87_11 := q_.f11; clear q_))
                  refine bodyPost_ret (results_ct rfl _ _ gb201 24 #[.int .i64 0, .int .i64 0, .int .i64 0, .int .i64 0, .int .i64 0, .int .i64 0, .int .i64 0, .int .i64 0, .int .i64 0, .int .i64 0, .int .i64 0, .int .i64 0] (0, 0) _ rfl (by (with_reducible repeat (first | refine blk_drewN ?_ _ | refine blk_drew ?_ | refine blk_alloc ?_ _)); refine blk_put12 (.int .i64 0) (.int .i64 0) (.int .i64 0) (.int .i64 0) (.int .i64 0) (.int .i64 0) (.int .i64 0) (.int .i64 0) (.int .i64 0) (.int .i64 0) (.int .i64 0) (.int .i64 0) ?_; (with_reducible repeat (first | refine blk_drewN ?_ _ | refine blk_drew ?_ | refine blk_alloc ?_ _)); exact BK201.out) Try.underlying24 rfl (by kernel_rfl)) rfl ?_
                  exact ⟨by first | rfl | (simp [errW_none, errW_some] <;> rfl) | (simp [*, errW_none, errW_some] <;> rfl), by repeat (first | (with_reducible first | exact HB.out | apply below_alloc | apply pw_below_drewN | apply below_drew1 | refine below_set ?_ GE201.out | refine below_set ?_ GE209.out) | exact HB.out)⟩
                ·rw [if_neg c69] at H
                 have c69b0 : (t219 == 0) = false := beq_eq_false_iff_ne.mpr c69
                 have c69b1 : (t219 != 0) = true := bne_iff_ne.mpr c69
                 simp only [Option.some.injEq, Prod.mk.injEq] at H
                 obtain ⟨rfl, rfl, rfl, rfl, rfl, rfl, rfl, rfl, rfl, rfl, rfl, rfl, rfl⟩ := H
                 obtain ⟨i088, hi088, _, hsz88, _⟩ := info_parts info5
                 obtain ⟨A88, hcut88, hA88, hC88⟩ := print_mid_of (P := Try.prog) (Value.int .u8) 0 25 5 .i64 .i64 Try.underlying25 hi088 hsz88 (some ad202) c0 l0 28 30 (by omega) (by first | omega | exact of_decide_eq_true (by first | (with_reducible assumption) | assumption)) (of_decide_eq_true (by first | (with_reducible assumption) | assumption)) HC0.out
                 have HR212 := Aside0.mk (Kd.C_of_reads (h1 := fun _ => rfl) (hA88 _ (Kd.reads_of_C HR0.out)))
                 have HC212 := Aside0.mk hC88
                 clear hA88 hC88 hi088 hsz88
                 go_wp2_with (first | ((with_reducible refine gate_callee (f := 32) rfl ?_); refine goesL_ (some 48) rfl rfl Try.func32 (by kernel_rfl) rfl #[.slice A88 ((l0.take 30).drop 28).length (c0 - 28)] rfl (by (try simp only [List.map_toArray, List.map_cons, List.map_nil]); first | done | (rw [show ((l0.take 30).drop 28).length = (30 - 28) from (by rw [List.length_drop, List.length_take]; have h_ : (30 : Int) ≤ (l0.length : Int) := of_decide_eq_true (by first | (with_reducible assumption) | assumption); omega)] <;> rfl) | rfl | (simp only [List.length_drop, List.length_take]; rfl)) ?_; (with_reducible refine (leveeref01_Get.calls k1 _ _ ((l0.take 30).drop 28) t213 _ ?side1 ?side2 A64.out).mono ?_); (case side1 => repeat (first | exact (Kd.C_below HR212.out HB.out) | (with_reducible refine Kd.C_alloc ?_ _) | (with_reducible refine Kd.C_drewN ?_ _) | (with_reducible refine Kd.C_drew ?_))); (case side2 => exact HC212.out); rintro e w' ⟨rfl, ⟨nd, rfl⟩⟩; refine ⟨_, rfl, ?_⟩; (try (rw [drewN_self wr]; generalize hq_ : World.drewN wr _ = wr; have n0_ : Aside0 (wr.heap[gb201]? = some (.cells #[.int .i64 0, .int .i64 0, .int .i64 0, .int .i64 0, .int .i64 0, .int .i64 0, .int .i64 0, .int .i64 0, .int .i64 0, .int .i64 0, .int .i64 0, .int .i64 0] 24 (0, 0))) := ⟨by rw [← hq_]; exact (by (with_reducible repeat (first | refine blk_drewN ?_ _ | refine blk_drew ?_ | refine blk_alloc ?_ _)); exact BK201.out)⟩; have n1_ : Aside0 (wr.heap[gb209]? = some (.cells #[.int .i64 (wrap64 (rd l0 0)), .int .i64 (wrap64 (t204)), .int .i64 (wrap64 (t206)), .int .i64 (wrap64 (t208)), .int .i64 x210004_1, .int .i64 x210005_1, .int .i64 x210006_1, .int .i64 x210007_1, .int .i64 x210008_1, .int .i64 x210009_1, .int .i64 0, .int .i64 0] 24 (0, 0))) := ⟨by rw [← hq_]; exact (by (with_reducible repeat (first | refine blk_drewN ?_ _ | refine blk_drew ?_ | refine blk_alloc ?_ _)); exact BK209.out)⟩; have n2_ : Aside0 (Below w.heap.size w wr) := ⟨by rw [← hq_]; exact (by repeat (first | (with_reducible first | exact HB.out | apply below_alloc | apply pw_below_drewN | apply below_drew1 | refine below_set ?_ GE201.out | refine below_set ?_ GE209.out) | exact HB.out))⟩; clear BK201 BK209 HB hq_; have BK201 := n0_; have BK209 := n1_; have HB := n2_; clear n0_ n1_ n2_)); have hnb89 := NB209_201.out; have hnc89 := NB201_209.out; have q_ := cells12 BK209.out; have hcz90_0 := q_.c0; have hcz90_1 := q_.c1; have hcz90_2 := q_.c2; have hcz90_3 := q_.c3; have hcz90_4 := q_.c4; have hcz90_5 := q_.c5; have hcz90_6 := q_.c6; have hcz90_7 := q_.c7; have hcz90_8 := q_.c8; have hcz90_9 := q_.c9; have hcz90_10 := q_.c10; have hcz90_11 := q_.c11; have hfz90_0 := q_.f0; have hfz90_1 := q_.f1; have hfz90_2 := q_.f2; have hfz90_3 := q_.f3; have hfz90_4 := q_.f4; have hfz90_5 := q_.f5; have hfz90_6 := q_.f6; have hfz90_7 := q_.f7; have hfz90_8 := q_.f8; have hfz90_9 := q_.f9; have hfz90_10 := q_.f10; have hfz90_11 := q_.f11; clear q_; obtain ⟨i091, hi091, _, hsz91, _⟩ := info_parts info5; obtain ⟨A91, hcut91, hA91, hC91⟩ := print_mid_of (P := Try.prog) (Value.int .u8) 0 25 5 .i64 .i64 Try.underlying25 hi091 hsz91 (some ad202) c0 l0 30 32 (by omega) (by first | omega | exact of_decide_eq_true (by first | (with_reducible assumption) | assumption)) (of_decide_eq_true (by first | (with_reducible assumption) | assumption)) HC0.out; have HR214 := Aside0.mk (Kd.C_of_reads (h1 := fun _ => rfl) (hA91 _ (Kd.reads_of_C HR0.out))); have HC214 := Aside0.mk hC91; clear hA91 hC91 hi091 hsz91) | ((with_reducible refine gate_callee (f := 32) rfl ?_); refine goesL_ (some 53) rfl rfl Try.func32 (by kernel_rfl) rfl #[.slice A91 ((l0.take 32).drop 30).length (c0 - 30)] rfl (by (try simp only [List.map_toArray, List.map_cons, List.map_nil]); first | done | (rw [show ((l0.take 32).drop 30).length = (32 - 30) from (by rw [List.length_drop, List.length_take]; have h_ : (32 : Int) ≤ (l0.length : Int) := of_decide_eq_true (by first | (with_reducible assumption) | assumption); omega)] <;> rfl) | rfl | (simp only [List.length_drop, List.length_take]; rfl)) ?_; (with_reducible refine (leveeref01_Get.calls k1 _ _ ((l0.take 32).drop 30) t215 _ ?side1 ?side2 A67.out).mono ?_); (case side1 => exact Kd.C_below HR214.out (by repeat (first | (with_reducible first | exact HB.out | apply below_alloc | apply pw_below_drewN | apply below_drew1 | refine below_set ?_ GE201.out | refine below_set ?_ GE209.out) | exact HB.out))); (case side2 => exact HC214.out); rintro e w' ⟨rfl, ⟨nd, rfl⟩⟩; refine ⟨_, rfl, ?_⟩) | ((with_reducible refine gate_callee (f := 7) rfl ?_); refine goesL_ (some 58) rfl rfl Try.func7 (by kernel_rfl) rfl #[.agg #[.int .i64 (wrap64 (rd l0 0)), .int .i64 (wrap64 (t204)), .int .i64 (wrap64 (t206)), .int .i64 (wrap64 (t208)), .int .i64 x210004_1, .int .i64 x210005_1, .int .i64 x210006_1, .int .i64 x210007_1, .int .i64 x210008_1, .int .i64 x210009_1, .int .i64 (wrap64 (t213)), .int .i64 (wrap64 (t215))]] rfl (by (try simp only [List.map_toArray, List.map_cons, List.map_nil]); first | done | rfl | (simp only [List.length_drop, List.length_take]; rfl)) ?_; (with_reducible refine (leveeref07_Put.calls k1 (wrap64 (rd l0 0)) (wrap64 (t204)) (wrap64 (t206)) (wrap64 (t208)) x210004_1 x210005_1 x210006_1 x210007_1 x210008_1 x210009_1 (wrap64 (t213)) (wrap64 (t215)) t216 t219 _ A68.out).mono ?_); rintro e w92 ⟨v217, rfl, ho0, hb⟩; refine ⟨_, rfl, ?_⟩; have n0_ := Aside0.mk (Kd.R_lower ho0 (below_size (by repeat (first | (with_reducible first | exact HB.out | apply below_alloc | apply pw_below_drewN | apply below_drew1 | refine below_set ?_ GE201.out | refine below_set ?_ GE209.out) | exact HB.out)))); have n1_ := Aside0.mk (blk_below (g := gb201) (o := .cells #[.int .i64 0, .int .i64 0, .int .i64 0, .int .i64 0, .int .i64 0, .int .i64 0, .int .i64 0, .int .i64 0, .int .i64 0, .int .i64 0, .int .i64 0, .int .i64 0] 24 (0, 0)) (by (with_reducible repeat (first | refine blk_drewN ?_ _ | refine blk_drew ?_ | refine blk_alloc ?_ _)); refine blk_far ?_ NB201_209.out _; (with_reducible repeat (first | refine blk_drewN ?_ _ | refine blk_drew ?_ | refine blk_alloc ?_ _)); refine blk_far ?_ NB201_209.out _; (with_reducible repeat (first | refine blk_drewN ?_ _ | refine blk_drew ?_ | refine blk_alloc ?_ _)); exact BK201.out) hb); have n2_ := Aside0.mk (blk_below (g := gb209) (o := .cells #[.int .i64 (wrap64 (rd l0 0)), .int .i64 (wrap64 (t204)), .int .i64 (wrap64 (t206)), .int .i64 (wrap64 (t208)), .int .i64 x210004_1, .int .i64 x210005_1, .int .i64 x210006_1, .int .i64 x210007_1, .int .i64 x210008_1, .int .i64 x210009_1, .int .i64 (wrap64 (t213)), .int .i64 (wrap64 (t215))] 24 (0, 0)) (by (with_reducible repeat (first | refine blk_drewN ?_ _ | refine blk_drew ?_ | refine blk_alloc ?_ _)); refine blk_put (cs := #[.int .i64 (wrap64 (rd l0 0)), .int .i64 (wrap64 (t204)), .int .i64 (wrap64 (t206)), .int .i64 (wrap64 (t208)), .int .i64 x210004_1, .int .i64 x210005_1, .int .i64 x210006_1, .int .i64 x210007_1, .int .i64 x210008_1, .int .i64 x210009_1, .int .i64 (wrap64 (t213)), .int .i64 0]) ?_ 11 _ rfl; (with_reducible repeat (first | refine blk_drewN ?_ _ | refine blk_drew ?_ | refine blk_alloc ?_ _)); refine blk_put (cs := #[.int .i64 (wrap64 (rd l0 0)), .int .i64 (wrap64 (t204)), .int .i64 (wrap64 (t206)), .int .i64 (wrap64 (t208)), .int .i64 x210004_1, .int .i64 x210005_1, .int .i64 x210006_1, .int .i64 x210007_1, .int .i64 x210008_1, .int .i64 x210009_1, .int .i64 0, .int .i64 0]) ?_ 10 _ rfl; (with_reducible repeat (first | refine blk_drewN ?_ _ | refine blk_drew ?_ | refine blk_alloc ?_ _)); exact BK209.out) hb); have n3_ := Aside0.mk (below_step (by repeat (first | (with_reducible first | exact HB.out | apply below_alloc | apply pw_below_drewN | apply below_drew1 | refine below_set ?_ GE201.out | refine below_set ?_ GE209.out) | exact HB.out)) hb); clear BK201; clear BK209; clear HB; have HO218 := n0_; have BK201 := n1_; have BK209 := n2_; have HB := n3_; clear n0_ n1_ n2_ n3_; (try clear hb); (try clear hb2); (try clear hk); (try clear hi); (try clear ho0); have q_ := cells12 BK201.out; have hcz93_0 := q_.c0; have hcz93_1 := q_.c1; have hcz93_2 := q_.c2; have hcz93_3 := q_.c3; have hcz93_4 := q_.c4; have hcz93_5 := q_.c5; have hcz93_6 := q_.c6; have hcz93_7 := q_.c7; have hcz93_8 := q_.c8; have hcz93_9 := q_.c9; have hcz93_10 := q_.c10; have hcz93_11 := q_.c11; have hfz93_0 := q_.f0; have hfz93_1 := q_.f1; have hfz93_2 := q_.f2; have hfz93_3 := q_.f3; have hfz93_4 := q_.f4; have hfz93_5 := q_.f5; have hfz93_6 := q_.f6; have hfz93_7 := q_.f7; have hfz93_8 := q_.f8; have hfz93_9 := q_.f9; have hfz93_10 := q_.f10; have hfz93_11 := q_.f11; clear q_))
                 refine bodyPost_ret (results_ct rfl _ _ gb201 24 #[.int .i64 0, .int .i64 0, .int .i64 0, .int .i64 0, .int .i64 0, .int .i64 0, .int .i64 0, .int .i64 0, .int .i64 0, .int .i64 0, .int .i64 0, .int .i64 0] (0, 0) _ rfl (by (with_reducible repeat (first | refine blk_drewN ?_ _ | refine blk_drew ?_ | refine blk_alloc ?_ _)); refine blk_put12 (.int .i64 0) (.int .i64 0) (.int .i64 0) (.int .i64 0) (.int .i64 0) (.int .i64 0) (.int .i64 0) (.int .i64 0) (.int .i64 0) (.int .i64 0) (.int .i64 0) (.int .i64 0) ?_; (with_reducible repeat (first | refine blk_drewN ?_ _ | refine blk_drew ?_ | refine blk_alloc ?_ _)); exact BK201.out) Try.underlying24 rfl (by kernel_rfl)) rfl ?_
                 exact ⟨by first | rfl | (simp [errW_none, errW_some] <;> rfl) | (simp [*, errW_none, errW_some] <;> rfl), by repeat (first | (with_reducible first | exact HB.out | apply below_alloc | apply pw_below_drewN | apply below_drew1 | refine below_set ?_ GE201.out | refine below_set ?_ GE209.out) | exact HB.out)⟩
               ·rw [if_neg c66] at H
                exact absurd H (by simp)
              ·rw [if_neg c65] at H
               exact absurd H (by simp)
             ·rw [if_neg c63] at H
              exact absurd H (by simp)
            ·rw [if_neg c62] at H
             exact absurd H (by simp)
        ·rw [if_neg c11] at H
         exact absurd H (by simp)
       ·rw [if_neg c10] at H
        exact absurd H (by simp)
      ·rw [if_neg c8] at H
       exact absurd H (by simp)
     ·rw [if_neg c7] at H
      exact absurd H (by simp)
    ·rw [if_neg c5] at H
     exact absurd H (by simp)
   ·rw [if_neg c4] at H
    exact absurd H (by simp)
  ·rw [if_neg c3] at H
   exact absurd H (by simp)
 ·rw [if_neg c2] at H
  have c2b0 : ((l0.length : Int) == 64) = false := beq_eq_false_iff_ne.mpr c2
  have c2b1 : ((l0.length : Int) != 64) = true := bne_iff_ne.mpr c2
  simp only [Option.some.injEq, Prod.mk.injEq] at H
  obtain ⟨rfl, rfl, rfl, rfl, rfl, rfl, rfl, rfl, rfl, rfl, rfl, rfl, rfl⟩ := H
  go_enter Try.func10, Try.ntmps10
  go_wp2_with (first | ((with_reducible refine gate_dst (N := 2) rfl ?_); refine box_event ?hg (N := 2) ?hd (cs := #[.int .i64 0, .int .i64 0, .int .i64 0, .int .i64 0, .int .i64 0, .int .i64 0, .int .i64 0, .int .i64 0, .int .i64 0, .int .i64 0, .int .i64 0, .int .i64 0]) (t := 24) ?hr ?_; (case hd => rfl); (case hg => rfl); (case hr => first | (go_simp; done) | (go_simp; rfl)); intro gb201 hg w94 hbox hb; have n0_ := Aside0.mk (below_step (by repeat (first | (with_reducible first | exact HB.out | apply below_alloc | apply pw_below_drewN | apply below_drew1) | exact HB.out)) hb); have n1_ := Aside0.mk (hbox); have n2_ := Aside0.mk ((by rw [hg]; exact (below_size (by repeat (first | (with_reducible first | exact HB.out | apply below_alloc | apply pw_below_drewN | apply below_drew1) | exact HB.out))) : w.heap.size ≤ gb201)); have n3_ := Aside0.mk ((by rw [hg]; exact (below_size (by repeat (first | (with_reducible first | exact HB.out | apply below_alloc | apply pw_below_drewN | apply below_drew1) | exact HB.out))) : w.heap.size ≤ gb201)); clear HB; have HB := n0_; have BK201 := n1_; have GW201 := n2_; have GE201 := n3_; clear n0_ n1_ n2_ n3_; clear hb hbox hg; have q_ := cells12 BK201.out; have hcz95_0 := q_.c0; have hcz95_1 := q_.c1; have hcz95_2 := q_.c2; have hcz95_3 := q_.c3; have hcz95_4 := q_.c4; have hcz95_5 := q_.c5; have hcz95_6 := q_.c6; have hcz95_7 := q_.c7; have hcz95_8 := q_.c8; have hcz95_9 := q_.c9; have hcz95_10 := q_.c10; have hcz95_11 := q_.c11; have hfz95_0 := q_.f0; have hfz95_1 := q_.f1; have hfz95_2 := q_.f2; have hfz95_3 := q_.f3; have hfz95_4 := q_.f4; have hfz95_5 := q_.f5; have hfz95_6 := q_.f6; have hfz95_7 := q_.f7; have hfz95_8 := q_.f8; have hfz95_9 := q_.f9; have hfz95_10 := q_.f10; have hfz95_11 := q_.f11; clear q_))
  refine bodyPost_ret (results_ct rfl _ _ gb201 24 #[.int .i64 0, .int .i64 0, .int .i64 0, .int .i64 0, .int .i64 0, .int .i64 0, .int .i64 0, .int .i64 0, .int .i64 0, .int .i64 0, .int .i64 0, .int .i64 0] (0, 0) _ rfl (by (with_reducible repeat (first | refine blk_drewN ?_ _ | refine blk_drew ?_ | refine blk_alloc ?_ _)); refine blk_put12 (.int .i64 0) (.int .i64 0) (.int .i64 0) (.int .i64 0) (.int .i64 0) (.int .i64 0) (.int .i64 0) (.int .i64 0) (.int .i64 0) (.int .i64 0) (.int .i64 0) (.int .i64 0) ?_; (with_reducible repeat (first | refine blk_drewN ?_ _ | refine blk_drew ?_ | refine blk_alloc ?_ _)); exact BK201.out) Try.underlying24 rfl (by kernel_rfl)) rfl ?_
  exact ⟨by first | rfl | (simp [errW_none, errW_some] <;> rfl) | (simp [*, errW_none, errW_some] <;> rfl), by repeat (first | (with_reducible first | exact HB.out | apply below_alloc | apply pw_below_drewN | apply below_drew1 | refine below_set ?_ GE201.out) | exact HB.out)⟩

end Go.Proofs.Ythcndfnmgggblaa.P
