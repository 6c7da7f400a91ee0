-- PRINTED by print.py (a twelfth state) out of the translation. Not trusted: Lean checks it.
import Derived.Test.YtnlneiiccoakjaaPx0
import Derived.Test.YtnlneiiccoakjaaPx2
import Derived.Test.YtnlneiiccoakjaaHand
import Derived.Test.YtnlneiiccoakjaaHandImgRef
import Derived.Test.YtnlneiiccoakjaaCells
namespace Go.Proofs.Ytnlneiiccoakjaa.P
open Go.RowKit Go.Proofs.YtnlneiiccoakjaaW.PrintWords Go.Proofs.YtnlneiiccoakjaaW.PrintLast Go.Proofs.YtnlneiiccoakjaaW.PrintMore
attribute [local go_sem] max2_int min2_int max_two min_two max_three min_three max_four min_four   -- for this text's walks alone
set_option linter.unusedVariables false
set_option linter.unusedSimpArgs false

/-! ### leveeref32_Rows: function 10 -/
mutual
def leveeref32_Rows.l0 : Nat → List Int → List (S54) → Int → Option ((List (S54)) × Int)
 | 0, _, _, _ => none
 | k + 1, x0, x4, x5 => if x5 < (wrap64 ((x0.length : Int) / 256)) then ((leveeref32_kind.f x0 x5).bind fun t128 => (if (x4.length : Int) = 0 then (leveeref32_Rows.j1 k x0 x4 x5 t128 true) else (if 0 ≤ (wrap64 ((x4.length : Int) - 1)) then (if (wrap64 ((x4.length : Int) - 1)) < (x4.length : Int) then (leveeref32_Rows.j1 k x0 x4 x5 t128 (((rd_T54 x4 (wrap64 ((x4.length : Int) - 1))).f0) != t128)) else (none)) else (none)))) else (some (x4, 0))
def leveeref32_Rows.j1 : Nat → List Int → List (S54) → Int → Int → Bool → Option ((List (S54)) × Int)
 | 0, _, _, _, _, _ => none
 | k + 1, x0, x4, x5, x6, x34 => if x34 = true then (if x4.length < 4398046511104 then ((some (x4 ++ [(⟨x6, 0, (⟨#[]⟩ : ByteArray)⟩ : S54)] : List (S54))).bind fun y130 => (if 0 ≤ (wrap64 ((y130.length : Int) - 1)) then (if (wrap64 ((y130.length : Int) - 1)) < (y130.length : Int) then (if x6 = 1 then (if 0 ≤ (wrap64 (256 * x5)) then (if (wrap64 (256 * x5)) ≤ (wrap64 ((wrap64 (256 * x5)) + 256)) then (if (wrap64 ((wrap64 (256 * x5)) + 256)) ≤ (x0.length : Int) then (if ((rd_T54 y130 (wrap64 ((y130.length : Int) - 1))).f2).size + (strOfNums ((x0.take ((wrap64 ((wrap64 (256 * x5)) + 256)) : Int).toNat).drop ((wrap64 (256 * x5)) : Int).toNat)).size ≤ 9223372036854775807 then (leveeref32_Rows.l0 k x0 (y130.set ((wrap64 ((y130.length : Int) - 1)) : Int).toNat (⟨(rd_T54 y130 (wrap64 ((y130.length : Int) - 1))).f0, wrap64 (((rd_T54 y130 (wrap64 ((y130.length : Int) - 1))).f1) + 1), ((rd_T54 y130 (wrap64 ((y130.length : Int) - 1))).f2) ++ (strOfNums ((x0.take ((wrap64 ((wrap64 (256 * x5)) + 256)) : Int).toNat).drop ((wrap64 (256 * x5)) : Int).toNat))⟩ : S54)) (wrap64 (x5 + 1))) else (none)) else (none)) else (none)) else (none)) else (leveeref32_Rows.l0 k x0 (y130.set ((wrap64 ((y130.length : Int) - 1)) : Int).toNat (⟨(rd_T54 y130 (wrap64 ((y130.length : Int) - 1))).f0, wrap64 (((rd_T54 y130 (wrap64 ((y130.length : Int) - 1))).f1) + 1), (rd_T54 y130 (wrap64 ((y130.length : Int) - 1))).f2⟩ : S54)) (wrap64 (x5 + 1)))) else (none)) else (none))) else (none)) else (if 0 ≤ (wrap64 ((x4.length : Int) - 1)) then (if (wrap64 ((x4.length : Int) - 1)) < (x4.length : Int) then (if x6 = 1 then (if 0 ≤ (wrap64 (256 * x5)) then (if (wrap64 (256 * x5)) ≤ (wrap64 ((wrap64 (256 * x5)) + 256)) then (if (wrap64 ((wrap64 (256 * x5)) + 256)) ≤ (x0.length : Int) then (if ((rd_T54 x4 (wrap64 ((x4.length : Int) - 1))).f2).size + (strOfNums ((x0.take ((wrap64 ((wrap64 (256 * x5)) + 256)) : Int).toNat).drop ((wrap64 (256 * x5)) : Int).toNat)).size ≤ 9223372036854775807 then (leveeref32_Rows.l0 k x0 (x4.set ((wrap64 ((x4.length : Int) - 1)) : Int).toNat (⟨(rd_T54 x4 (wrap64 ((x4.length : Int) - 1))).f0, wrap64 (((rd_T54 x4 (wrap64 ((x4.length : Int) - 1))).f1) + 1), ((rd_T54 x4 (wrap64 ((x4.length : Int) - 1))).f2) ++ (strOfNums ((x0.take ((wrap64 ((wrap64 (256 * x5)) + 256)) : Int).toNat).drop ((wrap64 (256 * x5)) : Int).toNat))⟩ : S54)) (wrap64 (x5 + 1))) else (none)) else (none)) else (none)) else (none)) else (leveeref32_Rows.l0 k x0 (x4.set ((wrap64 ((x4.length : Int) - 1)) : Int).toNat (⟨(rd_T54 x4 (wrap64 ((x4.length : Int) - 1))).f0, wrap64 (((rd_T54 x4 (wrap64 ((x4.length : Int) - 1))).f1) + 1), (rd_T54 x4 (wrap64 ((x4.length : Int) - 1))).f2⟩ : S54)) (wrap64 (x5 + 1)))) else (none)) else (none))
end
def leveeref32_Rows.f (k : Nat) (l0 : List Int) : Option ((List (S54)) × Int) := (leveeref32_right.f l0).bind fun t127 => (if t127 = true then (leveeref32_Rows.l0 k l0 ([] : List (S54)) 0) else (some (([] : List (S54)), 1)))
def leveeref32_Rows.T13 : Bool × List (List Nat × List Nat) := (true, [([], []), ([0], [0]), ([], []), ([], []), ([3], [3]), ([], []), ([5], [5]), ([6], [6]), ([2, 4, 7], [2, 4, 7]), ([8], [8]), ([1, 9], [1, 9]), ([0, 1, 2, 3, 4, 5, 6, 7, 8, 9, 10], []), ([11, 10, 0, 1, 2, 3, 4, 5, 6, 7, 8, 9, 10], [10, 11])])
def leveeref32_Rows.B13 : List Nat := [0, 1, 0, 0, 8, 0, 32, 96, 252, 508, 1023, 2047, 4095]
theorem leveeref32_Rows.tab13 : rtab .any (opsOf Try.f10 13) = leveeref32_Rows.T13 := by kernel_rfl
theorem leveeref32_Rows.bits13 : waitsOk leveeref32_Rows.T13.2 leveeref32_Rows.B13 = true := by kernel_rfl
set_option maxHeartbeats 8000000 in
set_option maxRecDepth 100000 in
theorem leveeref32_Rows.calls (k : Nat) (A0 : Option Addr) (c0 : Nat) (l0 : List Int) (r1 : List (S54)) (r2 : Int) (w : World) (hr0 : Kd.C (Kd.int .u8) w A0 l0.length l0) (hc0 : l0.length ≤ c0) (h : leveeref32_Rows.f k l0 = some (r1, r2)) :
  Calls Try.prog 10 #[.slice A0 l0.length c0] w fun e w' => ∃ v0_ : Value, e = .returned (.tuple #[v0_, .int .i64 r2]) ∧ Kd.R k54 54 w' w.heap.size (fun _ => True) v0_ r1 ∧ Below w.heap.size w w' := by
 have hu54 := Try.underlying54
 have HR0 := Aside0.mk hr0
 have HC0 := Aside0.mk hc0
 clear hr0 hc0
 have HB := Aside0.mk (Below.refl w.heap.size w)
 have H : ((leveeref32_right.f l0).bind fun t127 => (if t127 = true then (leveeref32_Rows.l0 k l0 ([] : List (S54)) 0) else (some (([] : List (S54)), 1)))) = some (r1, r2) := h
 clear h
 replace H := Option.bind_eq_some_iff.mp H
 obtain ⟨t127, A20, H⟩ := H
 replace H : (if t127 = true then (leveeref32_Rows.l0 k l0 ([] : List (S54)) 0) else (some (([] : List (S54)), 1))) = some (r1, r2) := H
 have A2 := Aside0.mk A20
 clear A20
 by_cases c3 : t127 = true
 ·subst c3
  have H1 : (leveeref32_Rows.l0 k l0 ([] : List (S54)) 0) = some (r1, r2) := by rw [if_pos rfl] at H; exact H
  clear H
  have H := H1
  clear H1
  have H' := Aside0.mk H
  clear H
  go_enter Try.func10, Try.ntmps10
  go_wp2_with (first | ((with_reducible refine gate_callee (f := 26) rfl ?_); refine goesL_ (some 9) rfl rfl Try.func26 (by kernel_rfl) rfl #[.slice A0 l0.length c0] rfl (by (try simp only [List.map_toArray, List.map_cons, List.map_nil]); first | done | rfl | (simp only [List.length_drop, List.length_take]; rfl)) ?_; (with_reducible refine (leveeref32_right.calls _ _ l0 true _ ?side1 ?side2 A2.out).mono ?_); (case side1 => repeat (first | exact HR0.out | (with_reducible refine Kd.C_alloc ?_ _) | (with_reducible refine Kd.C_drewN ?_ _) | (with_reducible refine Kd.C_drew ?_))); (case side2 => exact HC0.out); rintro e w' ⟨rfl, ⟨nd, rfl⟩⟩; refine ⟨_, rfl, ?_⟩))
  go_loopg [4, 5] k (fun kq v4 v5 w' => ∃ (x4_1 : List (S54)) (x5_1 : Int), v5 = .int .i64 x5_1 ∧ Aside0 (leveeref32_Rows.l0 kq l0 x4_1 x5_1 = some (r1, r2)) ∧ Aside0 (kq ≤ k) ∧ Aside0 (Kd.R k54 54 w' w.heap.size (fun _ => True) v4 x4_1) ∧ Aside0 (Below w.heap.size w w'))
  case atStart => exact ⟨(([] : List (S54))), (0), (by first | rfl | (simp; done) | (simp [*]; done)), H', ⟨Nat.le_refl _⟩, ⟨by first | exact Kd.R_nil _ _ _ _ _ | exact Kd.N_nil _ _ _ _ _ | exact Kd.V_nil _ _ _ _ _ | exact Kd.Q_nil _ _ _ _ _ | exact Kd.S_nil _ _ _ _ _⟩, ⟨by repeat (first | (with_reducible first | exact HB.out | apply bA | apply bN | apply bD) | exact HB.out)⟩⟩
  case round =>
   clear H'
   try clear c1
   try clear c2
   try clear p2
   try clear c3
   obtain ⟨x4_1, x5_1, rfl, HA, HK1, HO_4, HB⟩ := hrel
   cases gk with
   | zero => exact absurd HA.out (by intro h0_; cases h0_)
   | succ k1 =>
    have H := HA.out
    clear HA
    simp only [leveeref32_Rows.l0] at H
    by_cases c4 : x5_1 < (wrap64 ((l0.length : Int) / 256))
    ·rw [if_pos c4] at H
     have c4b0 : decide (x5_1 < (wrap64 ((l0.length : Int) / 256))) = true := decide_eq_true c4
     clear c4
     replace H := Option.bind_eq_some_iff.mp H
     obtain ⟨t128, A50, H⟩ := H
     replace H : (if (x4_1.length : Int) = 0 then (leveeref32_Rows.j1 k1 l0 x4_1 x5_1 t128 true) else (if 0 ≤ (wrap64 ((x4_1.length : Int) - 1)) then (if (wrap64 ((x4_1.length : Int) - 1)) < (x4_1.length : Int) then (leveeref32_Rows.j1 k1 l0 x4_1 x5_1 t128 (((rd_T54 x4_1 (wrap64 ((x4_1.length : Int) - 1))).f0) != t128)) else (none)) else (none))) = some (r1, r2) := H
     have A5 := Aside0.mk A50
     clear A50
     have HC6 := Aside0.mk H
     clear H
     go_upto_region 8 with (first | ((with_reducible refine gate_callee (f := 27) rfl ?_); refine goesL_ (some 20) rfl rfl Try.func27 (by kernel_rfl) rfl #[.slice A0 l0.length c0, .int .i64 x5_1] rfl (by (try simp only [List.map_toArray, List.map_cons, List.map_nil]); first | done | rfl | (simp only [List.length_drop, List.length_take]; rfl)) ?_; (with_reducible refine (leveeref32_kind.calls _ _ l0 x5_1 t128 _ ?side1 ?side2 A5.out).mono ?_); (case side1 => repeat (first | exact (Kd.C_below HR0.out HB.out) | (with_reducible refine Kd.C_alloc ?_ _) | (with_reducible refine Kd.C_drewN ?_ _) | (with_reducible refine Kd.C_drew ?_))); (case side2 => exact HC0.out); rintro e w7 ⟨rfl, hb⟩; refine ⟨_, rfl, ?_⟩; have n0_ := Aside0.mk (Kd.R_below (by (with_reducible repeat (first | apply Kd.R_alloc | apply Kd.R_drewN | apply Kd.R_drew)); exact HO_4.out) hb); have n1_ := Aside0.mk (below_step (by repeat (first | (with_reducible first | exact HB.out | apply bA | apply bN | apply bD) | exact HB.out)) hb); clear HO_4; clear HB; have HO_4 := n0_; have HB := n1_; clear n0_ n1_; (try clear hb); (try clear hb2); (try clear hk); (try clear hi)))
     (try simp only [Act.put, List.setIfInBounds_toArray, List.set_cons_zero, List.set_cons_succ])
     go_cut [34] (fun v34 wc => ∃ (kq : Nat) (x34_5 : Bool), v34 = .bool x34_5 ∧ Aside0 (leveeref32_Rows.j1 kq l0 x4_1 x5_1 t128 x34_5 = some (r1, r2)) ∧ Aside0 (kq ≤ k1) ∧ Aside0 (Kd.R k54 54 wc w.heap.size (fun _ => True) u4 x4_1) ∧ Aside0 (Below w.heap.size w wc))
     case first =>
      have H := HC6.out
      clear HC6
      by_cases c8 : (x4_1.length : Int) = 0
      ·rw [if_pos c8] at H
       have c8b0 : ((x4_1.length : Int) == 0) = true := beq_iff_eq.mpr c8
       have c8b1 : ((x4_1.length : Int) != 0) = false := bne_eq_false_iff_eq.mpr c8
       clear c8
       (first | rw [c8b0] | (simp only [i64_w, i32_w]; rw [c8b0]) | skip)
       have H' := Aside0.mk H
       clear H
       obtain ⟨Ao9, co9, eo9⟩ := Kd.R_slice HO_4.out
       subst eo9
       go_wp2
       go_meet
       case rel => exact ⟨_, (true), (by first | rfl | (simp; done) | (simp [*]; done)), H', ⟨by have := HK1.out; first | omega | exact Nat.le_refl _⟩, ⟨by (with_reducible repeat (first | apply Kd.R_alloc | apply Kd.R_drewN | apply Kd.R_drew)); exact HO_4.out⟩, ⟨by repeat (first | (with_reducible first | exact HB.out | apply bA | apply bN | apply bD) | exact HB.out)⟩⟩
      ·rw [if_neg c8] at H
       have c8b0 : ((x4_1.length : Int) == 0) = false := beq_eq_false_iff_ne.mpr c8
       have c8b1 : ((x4_1.length : Int) != 0) = true := bne_iff_ne.mpr c8
       have c8b2 : ¬ (x4_1 = []) := fun h_ => c8 (by rw [h_]; rfl)
       (first | rw [c8b0] | (simp only [i64_w, i32_w]; rw [c8b0]) | skip)
       obtain ⟨ji10, hji10⟩ : ∃ j_ : Int, (wrap64 ((x4_1.length : Int) - 1)) = j_ := ⟨_, rfl⟩
       replace H : (if 0 ≤ (ji10) then (if (ji10) < (x4_1.length : Int) then (leveeref32_Rows.j1 k1 l0 x4_1 x5_1 t128 (((rd_T54 x4_1 (ji10)).f0) != t128)) else (none)) else (none)) = some (r1, r2) := by first | (rw [hji10] at H; exact H) | (simp only [hji10] at H ⊢; exact H)
       have hji10w : (IntKind.i64.wrap ((x4_1.length : Int) - 1)) = ji10 := (i64_w _).trans hji10
       by_cases c11 : 0 ≤ (ji10)
       ·rw [if_pos c11] at H
        have c11b0 : decide (0 ≤ (ji10)) = true := decide_eq_true c11
        clear c11
        by_cases c12 : (ji10) < (x4_1.length : Int)
        ·rw [if_pos c12] at H
         have c12b0 : decide ((ji10) < (x4_1.length : Int)) = true := decide_eq_true c12
         clear c12
         have H' := Aside0.mk H
         clear H
         obtain ⟨Ao13, co13, eo13⟩ := Kd.R_slice HO_4.out
         subst eo13
         have p129 : 0 ≤ ((ji10) : Int) := of_decide_eq_true (by first | (with_reducible assumption) | assumption)
         have q129 : (ji10) < (x4_1.length : Int) := of_decide_eq_true (by first | (with_reducible assumption) | assumption)
         obtain ⟨ad129, e129, hx129_0, hx129_1, hx129_2⟩ := at_T54 (Kd.R_reads' HO_4.out).2.2 (ji10) p129 q129
         cases e129
         replace p129 := eq_true p129
         replace q129 := eq_true q129
         go_wp2
         go_meet
         case rel => exact ⟨_, ((((rd_T54 x4_1 (ji10)).f0) != t128)), (by first | rfl | (simp; done) | (simp only [← hji10] <;> (first | rfl | simp)) | (simp [*]; done)), H', ⟨by have := HK1.out; first | omega | exact Nat.le_refl _⟩, ⟨by (with_reducible repeat (first | apply Kd.R_alloc | apply Kd.R_drewN | apply Kd.R_drew)); exact HO_4.out⟩, ⟨by repeat (first | (with_reducible first | exact HB.out | apply bA | apply bN | apply bD) | exact HB.out)⟩⟩
        ·rw [if_neg c12] at H
         exact absurd H (by simp)
       ·rw [if_neg c11] at H
        exact absurd H (by simp)
     case rest =>
      clear HC6
      try clear c1
      try clear p1
      try clear q1
      try clear hx1
      try clear c2
      try clear p2
      try clear c3
      try clear c4
      try clear c4b0
      try clear p6
      try clear c8
      try clear c8b0
      try clear c8b1
      try clear c8b2
      try clear c10
      try clear c11
      try clear c11b0
      try clear c12
      try clear c12b0
      try clear p12
      try clear q12
      try clear hx12
      try clear hx129_0
      try clear hx129_1
      try clear hx129_2
      try clear p129
      try clear p2
      try clear q129
      obtain ⟨kq, x34_5, rfl, HA, HJ5, HO_4, HB⟩ := hcut
      cases kq with
      | zero => exact absurd HA.out (by simp [leveeref32_Rows.j1])
      | succ kj5 =>
       have H := HA.out
       clear HA
       simp only [leveeref32_Rows.j1] at H
       by_cases c14 : x34_5 = true
       ·subst c14
        have H1 : (if x4_1.length < 4398046511104 then ((some (x4_1 ++ [(⟨t128, 0, (⟨#[]⟩ : ByteArray)⟩ : S54)] : List (S54))).bind fun y130 => (if 0 ≤ (wrap64 ((y130.length : Int) - 1)) then (if (wrap64 ((y130.length : Int) - 1)) < (y130.length : Int) then (if t128 = 1 then (if 0 ≤ (wrap64 (256 * x5_1)) then (if (wrap64 (256 * x5_1)) ≤ (wrap64 ((wrap64 (256 * x5_1)) + 256)) then (if (wrap64 ((wrap64 (256 * x5_1)) + 256)) ≤ (l0.length : Int) then (if ((rd_T54 y130 (wrap64 ((y130.length : Int) - 1))).f2).size + (strOfNums ((l0.take ((wrap64 ((wrap64 (256 * x5_1)) + 256)) : Int).toNat).drop ((wrap64 (256 * x5_1)) : Int).toNat)).size ≤ 9223372036854775807 then (leveeref32_Rows.l0 kj5 l0 (y130.set ((wrap64 ((y130.length : Int) - 1)) : Int).toNat (⟨(rd_T54 y130 (wrap64 ((y130.length : Int) - 1))).f0, wrap64 (((rd_T54 y130 (wrap64 ((y130.length : Int) - 1))).f1) + 1), ((rd_T54 y130 (wrap64 ((y130.length : Int) - 1))).f2) ++ (strOfNums ((l0.take ((wrap64 ((wrap64 (256 * x5_1)) + 256)) : Int).toNat).drop ((wrap64 (256 * x5_1)) : Int).toNat))⟩ : S54)) (wrap64 (x5_1 + 1))) else (none)) else (none)) else (none)) else (none)) else (leveeref32_Rows.l0 kj5 l0 (y130.set ((wrap64 ((y130.length : Int) - 1)) : Int).toNat (⟨(rd_T54 y130 (wrap64 ((y130.length : Int) - 1))).f0, wrap64 (((rd_T54 y130 (wrap64 ((y130.length : Int) - 1))).f1) + 1), (rd_T54 y130 (wrap64 ((y130.length : Int) - 1))).f2⟩ : S54)) (wrap64 (x5_1 + 1)))) else (none)) else (none))) else (none)) = some (r1, r2) := by rw [if_pos rfl] at H; exact H
        clear H
        have H := H1
        clear H1
        by_cases c15 : x4_1.length < 4398046511104
        ·rw [if_pos c15] at H
         have LMc15 := Aside0.mk c15
         clear c15
         obtain ⟨y130, hy130⟩ : ∃ y_ : List (S54), y_ = (x4_1 ++ [(⟨t128, 0, (⟨#[]⟩ : ByteArray)⟩ : S54)]) := ⟨_, rfl⟩
         replace H : (if 0 ≤ (wrap64 ((y130.length : Int) - 1)) then (if (wrap64 ((y130.length : Int) - 1)) < (y130.length : Int) then (if t128 = 1 then (if 0 ≤ (wrap64 (256 * x5_1)) then (if (wrap64 (256 * x5_1)) ≤ (wrap64 ((wrap64 (256 * x5_1)) + 256)) then (if (wrap64 ((wrap64 (256 * x5_1)) + 256)) ≤ (l0.length : Int) then (if ((rd_T54 y130 (wrap64 ((y130.length : Int) - 1))).f2).size + (strOfNums ((l0.take ((wrap64 ((wrap64 (256 * x5_1)) + 256)) : Int).toNat).drop ((wrap64 (256 * x5_1)) : Int).toNat)).size ≤ 9223372036854775807 then (leveeref32_Rows.l0 kj5 l0 (y130.set ((wrap64 ((y130.length : Int) - 1)) : Int).toNat (⟨(rd_T54 y130 (wrap64 ((y130.length : Int) - 1))).f0, wrap64 (((rd_T54 y130 (wrap64 ((y130.length : Int) - 1))).f1) + 1), ((rd_T54 y130 (wrap64 ((y130.length : Int) - 1))).f2) ++ (strOfNums ((l0.take ((wrap64 ((wrap64 (256 * x5_1)) + 256)) : Int).toNat).drop ((wrap64 (256 * x5_1)) : Int).toNat))⟩ : S54)) (wrap64 (x5_1 + 1))) else (none)) else (none)) else (none)) else (none)) else (leveeref32_Rows.l0 kj5 l0 (y130.set ((wrap64 ((y130.length : Int) - 1)) : Int).toNat (⟨(rd_T54 y130 (wrap64 ((y130.length : Int) - 1))).f0, wrap64 (((rd_T54 y130 (wrap64 ((y130.length : Int) - 1))).f1) + 1), (rd_T54 y130 (wrap64 ((y130.length : Int) - 1))).f2⟩ : S54)) (wrap64 (x5_1 + 1)))) else (none)) else (none)) = some (r1, r2) := by first | (rw [hy130]; with_reducible exact H) | (have H2_ := (Option.bind_some _ _).symm.trans H; rw [hy130]; with_reducible exact H2_) | (have H2_ := (Option.bind_some _ _).symm.trans H; with_reducible exact H2_) | with_reducible exact H | (rw [hy130]; exact H) | exact H
         have Ny130 := Aside0.mk hy130
         clear hy130
         obtain ⟨ji16, hji16⟩ : ∃ j_ : Int, (wrap64 ((y130.length : Int) - 1)) = j_ := ⟨_, rfl⟩
         replace H : (if 0 ≤ (ji16) then (if (ji16) < (y130.length : Int) then (if t128 = 1 then (if 0 ≤ (wrap64 (256 * x5_1)) then (if (wrap64 (256 * x5_1)) ≤ (wrap64 ((wrap64 (256 * x5_1)) + 256)) then (if (wrap64 ((wrap64 (256 * x5_1)) + 256)) ≤ (l0.length : Int) then (if ((rd_T54 y130 (ji16)).f2).size + (strOfNums ((l0.take ((wrap64 ((wrap64 (256 * x5_1)) + 256)) : Int).toNat).drop ((wrap64 (256 * x5_1)) : Int).toNat)).size ≤ 9223372036854775807 then (leveeref32_Rows.l0 kj5 l0 (y130.set ((ji16) : Int).toNat (⟨(rd_T54 y130 (ji16)).f0, wrap64 (((rd_T54 y130 (ji16)).f1) + 1), ((rd_T54 y130 (ji16)).f2) ++ (strOfNums ((l0.take ((wrap64 ((wrap64 (256 * x5_1)) + 256)) : Int).toNat).drop ((wrap64 (256 * x5_1)) : Int).toNat))⟩ : S54)) (wrap64 (x5_1 + 1))) else (none)) else (none)) else (none)) else (none)) else (leveeref32_Rows.l0 kj5 l0 (y130.set ((ji16) : Int).toNat (⟨(rd_T54 y130 (ji16)).f0, wrap64 (((rd_T54 y130 (ji16)).f1) + 1), (rd_T54 y130 (ji16)).f2⟩ : S54)) (wrap64 (x5_1 + 1)))) else (none)) else (none)) = some (r1, r2) := by first | (rw [hji16] at H; exact H) | (simp only [hji16] at H ⊢; exact H)
         have hji16w : (IntKind.i64.wrap ((y130.length : Int) - 1)) = ji16 := (i64_w _).trans hji16
         by_cases c17 : 0 ≤ (ji16)
         ·rw [if_pos c17] at H
          have c17b0 : decide (0 ≤ (ji16)) = true := decide_eq_true c17
          clear c17
          by_cases c18 : (ji16) < (y130.length : Int)
          ·rw [if_pos c18] at H
           have c18b0 : decide ((ji16) < (y130.length : Int)) = true := decide_eq_true c18
           clear c18
           by_cases c19 : t128 = 1
           ·rw [if_pos c19] at H
            have c19b0 : (t128 == 1) = true := beq_iff_eq.mpr c19
            have c19b1 : (t128 != 1) = false := bne_eq_false_iff_eq.mpr c19
            clear c19
            obtain ⟨ji20, hji20⟩ : ∃ j_ : Int, (wrap64 (256 * x5_1)) = j_ := ⟨_, rfl⟩
            replace H : (if 0 ≤ (ji20) then (if (ji20) ≤ (wrap64 ((ji20) + 256)) then (if (wrap64 ((ji20) + 256)) ≤ (l0.length : Int) then (if ((rd_T54 y130 (ji16)).f2).size + (strOfNums ((l0.take ((wrap64 ((ji20) + 256)) : Int).toNat).drop ((ji20) : Int).toNat)).size ≤ 9223372036854775807 then (leveeref32_Rows.l0 kj5 l0 (y130.set ((ji16) : Int).toNat (⟨(rd_T54 y130 (ji16)).f0, wrap64 (((rd_T54 y130 (ji16)).f1) + 1), ((rd_T54 y130 (ji16)).f2) ++ (strOfNums ((l0.take ((wrap64 ((ji20) + 256)) : Int).toNat).drop ((ji20) : Int).toNat))⟩ : S54)) (wrap64 (x5_1 + 1))) else (none)) else (none)) else (none)) else (none)) = some (r1, r2) := by first | (rw [hji20] at H; exact H) | (simp only [hji20] at H ⊢; exact H)
            have hji20w : (IntKind.i64.wrap (256 * x5_1)) = ji20 := (i64_w _).trans hji20
            by_cases c21 : 0 ≤ (ji20)
            ·rw [if_pos c21] at H
             have c21b0 := eq_true c21
             have c21b1 : decide (0 ≤ (ji20)) = true := decide_eq_true c21
             clear c21
             by_cases c22 : (ji20) ≤ (wrap64 ((ji20) + 256))
             ·rw [if_pos c22] at H
              have c22b0 := eq_true c22
              have c22b1 : decide ((ji20) ≤ (wrap64 ((ji20) + 256))) = true := decide_eq_true c22
              by_cases c23 : (wrap64 ((ji20) + 256)) ≤ (l0.length : Int)
              ·rw [if_pos c23] at H
               have c23b0 := eq_true c23
               have c23b1 : decide ((wrap64 ((ji20) + 256)) ≤ (l0.length : Int)) = true := decide_eq_true c23
               by_cases c24 : ((rd_T54 y130 (ji16)).f2).size + (strOfNums ((l0.take ((wrap64 ((ji20) + 256)) : Int).toNat).drop ((ji20) : Int).toNat)).size ≤ 9223372036854775807
               ·rw [if_pos c24] at H
                have c24b0 := eq_true c24
                have c24b1 : decide (((rd_T54 y130 (ji16)).f2).size + (strOfNums ((l0.take ((wrap64 ((ji20) + 256)) : Int).toNat).drop ((ji20) : Int).toNat)).size ≤ 9223372036854775807) = true := decide_eq_true c24
                try have c24b2 : (9223372036854775807 < ((rd_T54 y130 (ji16)).f2).size + (strOfNums ((l0.take ((wrap64 ((ji20) + 256)) : Int).toNat).drop ((ji20) : Int).toNat)).size) = False := eq_false (Nat.not_lt.2 c24)
                obtain ⟨y136, hy136⟩ : ∃ y_ : List (S54), y_ = (y130.set ((ji16) : Int).toNat (⟨(rd_T54 y130 (ji16)).f0, wrap64 (((rd_T54 y130 (ji16)).f1) + 1), ((rd_T54 y130 (ji16)).f2) ++ (strOfNums ((l0.take ((wrap64 ((ji20) + 256)) : Int).toNat).drop ((ji20) : Int).toNat))⟩ : S54)) := ⟨_, rfl⟩
                replace H : (leveeref32_Rows.l0 kj5 l0 y136 (wrap64 (x5_1 + 1))) = some (r1, r2) := by first | (rw [hy136]; with_reducible exact H) | (have H2_ := (Option.bind_some _ _).symm.trans H; rw [hy136]; with_reducible exact H2_) | (have H2_ := (Option.bind_some _ _).symm.trans H; with_reducible exact H2_) | with_reducible exact H | (rw [hy136]; exact H) | exact H
                have Ny136 := Aside0.mk hy136
                clear hy136
                have H' := Aside0.mk H
                clear H
                try go_wp2_with (first | ((with_reducible refine gate_builtin (b := .append) (xs := #[.tmp 35, .tmp 38]) rfl ?_); (try (refine gate_guard (by rfl) ?_; dsimp only)); at_builtin; refine Kd.R_append k54 (w0 := w) w.heap.size rfl (.tmp 35) (.tmp 38) 23 54 (.agg #[(.int .i64 0), (.int .i64 0), (.string ⟨#[]⟩)]) 32 rfl Try.underlying23 info54 rfl (by decide) (by omega) u4 x4_1 (⟨t128, 0, (⟨#[]⟩ : ByteArray)⟩ : S54) [.int .i64 t128, .int .i64 0, .string (⟨#[]⟩ : ByteArray)] (fun _ => True) (fun _ => False) rfl rfl ?aP (fun _ hk => hk.elim) ?aF ?aO ?aB ?aS ?aL ?_; (case aP => exact k54_mkM _ _ _ (⟨t128, 0, (⟨#[]⟩ : ByteArray)⟩ : S54)); (case aB => exact (by repeat (first | (with_reducible first | exact HB.out | apply bA | apply bN | apply bD) | exact HB.out))); (case aF => exact (fun _ _ => trivial)); (case aO => exact (by (with_reducible repeat (first | apply Kd.R_alloc | apply Kd.R_drewN | apply Kd.R_drew)); exact HO_4.out)); (case aS => exact (below_size (by repeat (first | (with_reducible first | exact HB.out | apply bA | apply bN | apply bD) | exact HB.out)))); (case aL => have := LMc15.out; omega); intro v131 w26 ho hb hg hat; rw [← Ny130.out] at ho; have n0_ := Aside0.mk (hb); have n1_ := Aside0.mk (ho); clear HB; clear HO_4; have HB := n0_; have HO132 := n1_; clear n0_ n1_; clear ho hb hg hat; obtain ⟨Ao27, co27, eo27⟩ := Kd.R_slice HO132.out; subst eo27; have p133 : 0 ≤ ((ji16) : Int) := of_decide_eq_true (by first | (with_reducible assumption) | assumption); have q133 : (ji16) < (y130.length : Int) := of_decide_eq_true (by first | (with_reducible assumption) | assumption); obtain ⟨ad133, e133, hx133_0, hx133_1, hx133_2⟩ := at_T54 (Kd.R_reads' HO132.out).2.2 (ji16) p133 q133; cases e133; replace p133 := eq_true p133; replace q133 := eq_true q133) | ((with_reducible refine gate_dst (N := 7) rfl ?_); (try (refine gate_guard (by rfl) ?_; dsimp only)); refine box_event ?hg (N := 7) ?hd (cs := #[.int .i64 0, .int .i64 0, .string (⟨#[]⟩ : ByteArray)]) (t := 54) ?hr ?_; (case hd => rfl); (case hg => rfl); (case hr => first | (go_simp; done) | (go_simp; rfl)); intro gb134 hg w28 hbox hb; have n0_ := Aside0.mk (Kd.R_below (Kd.R_elderB (by (with_reducible repeat (first | apply Kd.R_alloc | apply Kd.R_drewN | apply Kd.R_drew)); exact HO132.out) gb134 (Nat.le_of_eq hg.symm)) hb); have n1_ := Aside0.mk (below_step (by repeat (first | (with_reducible first | exact HB.out | apply bA | apply bN | apply bD) | exact HB.out)) hb); have n2_ := Aside0.mk (hbox); have n3_ := Aside0.mk ((by rw [hg]; exact (below_size (by repeat (first | (with_reducible first | exact HB.out | apply bA | apply bN | apply bD) | exact HB.out))) : w.heap.size ≤ gb134)); have n4_ := Aside0.mk ((by rw [hg]; exact (below_size (by repeat (first | (with_reducible first | exact HB.out | apply bA | apply bN | apply bD) | exact HB.out))) : w.heap.size ≤ gb134)); clear HO132; clear HB; have HO132 := n0_; have HB := n1_; have BK134 := n2_; have GW134 := n3_; have GE134 := n4_; clear n0_ n1_ n2_ n3_ n4_; clear hb hbox hg; have q_ := cells3 BK134.out; have hcz29_0 := q_.c0; have hcz29_1 := q_.c1; have hcz29_2 := q_.c2; have hfz29_0 := q_.f0; have hfz29_1 := q_.f1; have hfz29_2 := q_.f2; clear q_))
                have n0_ : Aside0 (Kd.R k54 54 ((((w28.setCell ⟨gb134, 0, none⟩ (.int .i64 ((rd_T54 y130 (ji16)).f0))).setCell ⟨gb134, 1, none⟩ (.int .i64 ((rd_T54 y130 (ji16)).f1))).setCell ⟨gb134, 2, none⟩ (.string ((rd_T54 y130 (ji16)).f2))).setCell ⟨gb134, 1, none⟩ (.int .i64 (wrap64 (((rd_T54 y130 (ji16)).f1) + 1)))) w.heap.size (fun k_ => k_ ≠ gb134) (.slice (some ad133) y130.length co27) y130) := ⟨by (with_reducible repeat (first | apply Kd.R_alloc | apply Kd.R_drewN | apply Kd.R_drew)); exact Kd.R_mono (Kd.R_far (p := ⟨gb134, 1, none⟩) (Kd.R_far (p := ⟨gb134, 2, none⟩) (Kd.R_far (p := ⟨gb134, 1, none⟩) (Kd.R_far (p := ⟨gb134, 0, none⟩) (Kd.R_mono HO132.out (fun k_ hk => (⟨hk, hk.2⟩ : _ ∧ k_ ≠ gb134))) (fun _ hk => hk.2) (.int .i64 ((rd_T54 y130 (ji16)).f0))) (fun _ hk => hk.2) (.int .i64 ((rd_T54 y130 (ji16)).f1))) (fun _ hk => hk.2) (.string ((rd_T54 y130 (ji16)).f2))) (fun _ hk => hk.2) (.int .i64 (wrap64 (((rd_T54 y130 (ji16)).f1) + 1)))) (fun _ hk => hk.1.2)⟩
                have n1_ : Aside0 (((((w28.setCell ⟨gb134, 0, none⟩ (.int .i64 ((rd_T54 y130 (ji16)).f0))).setCell ⟨gb134, 1, none⟩ (.int .i64 ((rd_T54 y130 (ji16)).f1))).setCell ⟨gb134, 2, none⟩ (.string ((rd_T54 y130 (ji16)).f2))).setCell ⟨gb134, 1, none⟩ (.int .i64 (wrap64 (((rd_T54 y130 (ji16)).f1) + 1)))).heap[gb134]? = some (.cells #[.int .i64 ((rd_T54 y130 (ji16)).f0), .int .i64 (wrap64 (((rd_T54 y130 (ji16)).f1) + 1)), .string ((rd_T54 y130 (ji16)).f2)] 54 (0, 0))) := ⟨by (with_reducible repeat first | apply kN | apply kd | apply ka); refine blk_put (cs := #[.int .i64 ((rd_T54 y130 (ji16)).f0), .int .i64 ((rd_T54 y130 (ji16)).f1), .string ((rd_T54 y130 (ji16)).f2)]) ?_ 1 _ rfl; (with_reducible repeat first | apply kN | apply kd | apply ka); refine blk_put (cs := #[.int .i64 ((rd_T54 y130 (ji16)).f0), .int .i64 ((rd_T54 y130 (ji16)).f1), .string (⟨#[]⟩ : ByteArray)]) ?_ 2 _ rfl; (with_reducible repeat first | apply kN | apply kd | apply ka); refine blk_put (cs := #[.int .i64 ((rd_T54 y130 (ji16)).f0), .int .i64 0, .string (⟨#[]⟩ : ByteArray)]) ?_ 1 _ rfl; (with_reducible repeat first | apply kN | apply kd | apply ka); refine blk_put (cs := #[.int .i64 0, .int .i64 0, .string (⟨#[]⟩ : ByteArray)]) ?_ 0 _ rfl; (with_reducible repeat first | apply kN | apply kd | apply ka); exact BK134.out⟩
                have n2_ : Aside0 (Below w.heap.size w ((((w28.setCell ⟨gb134, 0, none⟩ (.int .i64 ((rd_T54 y130 (ji16)).f0))).setCell ⟨gb134, 1, none⟩ (.int .i64 ((rd_T54 y130 (ji16)).f1))).setCell ⟨gb134, 2, none⟩ (.string ((rd_T54 y130 (ji16)).f2))).setCell ⟨gb134, 1, none⟩ (.int .i64 (wrap64 (((rd_T54 y130 (ji16)).f1) + 1))))) := ⟨by repeat (first | (with_reducible first | exact HB.out | apply bA | apply bN | apply bD | refine bS ?_ GE134.out) | exact HB.out)⟩
                (try clear HO132)
                (try clear BK134)
                (try clear HB)
                generalize ((((w28.setCell ⟨gb134, 0, none⟩ (.int .i64 ((rd_T54 y130 (ji16)).f0))).setCell ⟨gb134, 1, none⟩ (.int .i64 ((rd_T54 y130 (ji16)).f1))).setCell ⟨gb134, 2, none⟩ (.string ((rd_T54 y130 (ji16)).f2))).setCell ⟨gb134, 1, none⟩ (.int .i64 (wrap64 (((rd_T54 y130 (ji16)).f1) + 1)))) = w30 at n0_ n1_ n2_ ⊢
                have HO132 := n0_
                have BK134 := n1_
                have HB := n2_
                clear n0_ n1_ n2_
                have n0_ := Aside0.mk (Kd.R_drew HO132.out)
                have n1_ := Aside0.mk (blk_drew BK134.out)
                have n2_ := Aside0.mk (below_drew1 HB.out)
                clear HO132
                clear BK134
                clear HB
                have HO132 := n0_
                have BK134 := n1_
                have HB := n2_
                clear n0_ n1_ n2_
                obtain ⟨i032, hi032, _, hsz32, _⟩ := info_parts info5
                obtain ⟨A32, hcut32, hA32, hC32⟩ := print_mid_of (P := Try.prog) (Value.int .u8) 0 22 5 .i64 .i64 Try.underlying22 hi032 hsz32 A0 c0 l0 (ji20) (wrap64 ((ji20) + 256)) (of_decide_eq_true (by first | (with_reducible assumption) | assumption)) (by first | omega | exact of_decide_eq_true (by first | (with_reducible assumption) | assumption)) (of_decide_eq_true (by first | (with_reducible assumption) | assumption)) HC0.out
                have HR135 := Aside0.mk (Kd.C_of_reads (h1 := fun _ => rfl) (hA32 _ (Kd.reads_of_C HR0.out)))
                have HC135 := Aside0.mk hC32
                clear hA32 hC32 hi032 hsz32
                refine start_ (n := 13) (S := fun w' => w'.cell? ⟨gb134, 0, none⟩ = some (.int .i64 ((rd_T54 y130 (ji16)).f0)) ∧ w'.cell? ⟨gb134, 1, none⟩ = some (.int .i64 (wrap64 (((rd_T54 y130 (ji16)).f1) + 1))) ∧ w'.cell? ⟨gb134, 2, none⟩ = some (.string ((rd_T54 y130 (ji16)).f2))) (ds := [12]) #[false, false, false, false, false, false, false, false, false, false, false, false, false] (by kernel_rfl) rfl rfl ⟨(blk_cell BK134.out 0).trans rfl, (blk_cell BK134.out 1).trans rfl, (blk_cell BK134.out 2).trans rfl⟩ (fun hHeld => ?_); refine with_tabW leveeref32_Rows.tab13 leveeref32_Rows.bits13 (fun HT_ HW_ => ?_)
                generalize w30.drew = w31 at HO132 BK134 HB HR135 hHeld ⊢
                refine pure_ (i := 0) (N := some 52) (v := ?_) (a' := ?_) #[true, false, false, false, false, false, false, false, false, false, false, false, false] rfl rfl (any_of HT_.out (by kernel_rfl)) (fun _ _ _ h => h) (Or.inl ⟨by rfl, ?_⟩) ?_ ?_
                rotate_left
                ·intro w'
                 go_simp
                 with_reducible rfl
                rotate_left
                ·simp only [Act.put, List.setIfInBounds_toArray, List.set_cons_zero, List.set_cons_succ, i64_w, i32_w]
                 rfl
                refine pure_ (i := 2) (N := some 54) (v := ?_) (a' := ?_) #[true, false, true, false, false, false, false, false, false, false, false, false, false] rfl rfl (any_of HT_.out (by kernel_rfl)) (fun _ _ _ h => h) (Or.inl ⟨by rfl, ?_⟩) ?_ ?_
                rotate_left
                ·intro w'
                 go_simp
                 with_reducible rfl
                rotate_left
                ·simp only [Act.put, List.setIfInBounds_toArray, List.set_cons_zero, List.set_cons_succ, i64_w, i32_w]
                 rfl
                refine pure_ (i := 3) (N := some 55) (v := ?_) (a' := ?_) #[true, false, true, true, false, false, false, false, false, false, false, false, false] rfl rfl (any_of HT_.out (by kernel_rfl)) (fun _ _ _ h => h) (Or.inl ⟨by rfl, ?_⟩) ?_ ?_
                rotate_left
                ·intro w'
                 go_simp
                 with_reducible rfl
                rotate_left
                ·simp only [Act.put, List.setIfInBounds_toArray, List.set_cons_zero, List.set_cons_succ, i64_w, i32_w]
                 rfl
                refine pure_ (i := 4) (N := some 56) (v := ?_) (a' := ?_) #[true, false, true, true, true, false, false, false, false, false, false, false, false] rfl rfl (any_of HT_.out (by kernel_rfl)) (fun _ _ _ h => h) (Or.inl ⟨by rfl, ?_⟩) ?_ ?_
                rotate_left
                ·intro w'
                 go_simp
                 with_reducible rfl
                rotate_left
                ·simp only [Act.put, List.setIfInBounds_toArray, List.set_cons_zero, List.set_cons_succ, i64_w, i32_w]
                 rfl
                refine pure_ (i := 5) (N := some 57) (v := ?_) (a' := ?_) #[true, false, true, true, true, true, false, false, false, false, false, false, false] rfl rfl (any_of HT_.out (by kernel_rfl)) (fun _ _ _ h => h) (Or.inl ⟨by rfl, ?_⟩) ?_ ?_
                rotate_left
                ·intro w'
                 go_simp
                 with_reducible rfl
                rotate_left
                ·simp only [Act.put, List.setIfInBounds_toArray, List.set_cons_zero, List.set_cons_succ, i64_w, i32_w]
                 rfl
                refine pure_ (i := 6) (N := some 58) (v := ?_) (a' := ?_) #[true, false, true, true, true, true, true, false, false, false, false, false, false] rfl rfl (any_of HT_.out (by kernel_rfl)) (fun _ _ _ h => h) (Or.inl ⟨by rfl, ?_⟩) ?_ ?_
                rotate_left
                ·intro w'
                 go_simp
                 with_reducible rfl
                rotate_left
                ·simp only [Act.put, List.setIfInBounds_toArray, List.set_cons_zero, List.set_cons_succ, i64_w, i32_w]
                 rfl
                refine pure_ (i := 7) (N := some 59) (v := ?_) (a' := ?_) #[true, false, true, true, true, true, true, true, false, false, false, false, false] rfl rfl (any_of HT_.out (by kernel_rfl)) (fun _ _ _ h => h) (Or.inl ⟨by rfl, ?_⟩) ?_ ?_
                rotate_left
                ·intro w'
                 go_simp
                 with_reducible rfl
                rotate_left
                ·simp only [Act.put, List.setIfInBounds_toArray, List.set_cons_zero, List.set_cons_succ, i64_w, i32_w]
                 rfl
                refine pure_ (i := 8) (N := some 60) (v := ?_) (a' := ?_) #[true, false, true, true, true, true, true, true, true, false, false, false, false] rfl rfl (any_of HT_.out (by kernel_rfl)) (fun _ _ _ h => h) (Or.inl ⟨by rfl, ?_⟩) ?_ ?_
                rotate_left
                ·intro w'
                 go_simp
                 with_reducible rfl
                rotate_left
                ·simp only [Act.put, List.setIfInBounds_toArray, List.set_cons_zero, List.set_cons_succ, i64_w, i32_w]
                 rfl
                refine take_ (i := 1) (N := some 53) (v := ?_) (a' := ?_) #[true, true, true, true, true, true, true, true, true, false, false, false, false] rfl rfl (take_ofW HT_.out HW_.out (by kernel_rfl)) (fun _ _ _ h => h) (Or.inl ⟨by rfl, ?_⟩) hHeld ?_ ?_
                rotate_left
                ·rintro w' ⟨s0, s1, s2⟩
                 go_simp
                 with_reducible rfl
                rotate_left
                ·simp only [Act.put, List.setIfInBounds_toArray, List.set_cons_zero, List.set_cons_succ, i64_w, i32_w]
                 rfl
                refine one_ (i := 9) (N := some 61) #[true, true, true, true, true, true, true, true, true, true, false, false, false] rfl rfl (one_of HT_.out (by kernel_rfl)) (by decide) (fun K hK => ?_)
                have hcv33 := Kd.C_string (P := Try.prog) (A := A32) (c := (c0 - (ji20).toNat)) Try.underlying22 Try.underlying5 Try.underlying9 (Kd.C_below HR135.out HB.out); (try (have hcv33s := hcv33; simp only [List.length_take, List.length_drop, Int.reduceToNat] at hcv33s; try (have hcv33m := hcv33; simp only [List.length_take, List.length_drop, Int.reduceToNat, Nat.min_eq_left, Int.toNat_le, *, -hcv33, -hcv33s] at hcv33m)))
                refine value_ (w1 := ?_) (v := ?_) (by rfl) rfl ?_ ?_
                rotate_left 2
                ·go_simp
                 constructor
                 ·rfl
                 ·rfl
                clear hcv33
                refine hK.out _ _ ⟨(blk_cell BK134.out 0).trans rfl, (blk_cell BK134.out 1).trans rfl, (blk_cell BK134.out 2).trans rfl⟩ (fun hHeld => ?_)
                clear hK K
                refine norm_ (a' := ?_) ?_ ?_
                rotate_left
                ·show Act.put _ (some 61) _ = _
                 simp only [Act.put, List.setIfInBounds_toArray, List.set_cons_zero, List.set_cons_succ, i64_w, i32_w]
                 rfl
                refine pure_ (i := 10) (N := some 62) (v := ?_) (a' := ?_) #[true, true, true, true, true, true, true, true, true, true, true, false, false] rfl rfl (any_of HT_.out (by kernel_rfl)) (fun _ _ _ h => h) (Or.inl ⟨by rfl, ?_⟩) ?_ ?_
                rotate_left
                ·intro w'
                 go_simp
                 with_reducible rfl
                rotate_left
                ·simp only [Act.put, List.setIfInBounds_toArray, List.set_cons_zero, List.set_cons_succ, i64_w, i32_w]
                 rfl
                refine pure_ (i := 11) (N := some 63) (v := ?_) (a' := ?_) #[true, true, true, true, true, true, true, true, true, true, true, true, false] rfl rfl (any_of HT_.out (by kernel_rfl)) (fun _ _ _ h => h) (Or.inl ⟨by rfl, ?_⟩) ?_ ?_
                rotate_left
                ·intro w'
                 go_simp
                 with_reducible rfl
                rotate_left
                ·simp only [Act.put, List.setIfInBounds_toArray, List.set_cons_zero, List.set_cons_succ, i64_w, i32_w]
                 rfl
                refine last_ (i := 12) (N := none) #[true, true, true, true, true, true, true, true, true, true, true, true, true] rfl rfl (one_of HT_.out (by kernel_rfl)) (by decide) (fun K hK => ?_)
                have hs34 : w31.cell? ⟨gb134, 2, none⟩ = some (.string ((rd_T54 y130 (ji16)).f2)) := (blk_cell BK134.out 2).trans rfl
                have hfs34 := blk_frozen BK134.out 2
                refine skip_ (w1 := ?_) (by rfl) rfl ?_ ?_
                rotate_left
                ·go_simp
                 rfl
                refine hK.out _ _ ?_
                clear hK K
                refine done_ (done_of HT_.out (by kernel_rfl)) ?_
                have n0_ : Aside0 (Kd.R k54 54 (w31.setCell ⟨gb134, 2, none⟩ (.string (((rd_T54 y130 (ji16)).f2) ++ (strOfNums ((l0.take ((wrap64 ((ji20) + 256)) : Int).toNat).drop ((ji20) : Int).toNat))))) w.heap.size (fun k_ => k_ ≠ gb134) (.slice (some ad133) y130.length co27) y130) := ⟨by (with_reducible repeat (first | apply Kd.R_alloc | apply Kd.R_drewN | apply Kd.R_drew)); exact Kd.R_mono (Kd.R_far (p := ⟨gb134, 2, none⟩) (Kd.R_mono HO132.out (fun k_ hk => (⟨hk, hk⟩ : _ ∧ k_ ≠ gb134))) (fun _ hk => hk.2) (.string (((rd_T54 y130 (ji16)).f2) ++ (strOfNums ((l0.take ((wrap64 ((ji20) + 256)) : Int).toNat).drop ((ji20) : Int).toNat))))) (fun _ hk => hk.1)⟩
                have n1_ : Aside0 ((w31.setCell ⟨gb134, 2, none⟩ (.string (((rd_T54 y130 (ji16)).f2) ++ (strOfNums ((l0.take ((wrap64 ((ji20) + 256)) : Int).toNat).drop ((ji20) : Int).toNat))))).heap[gb134]? = some (.cells #[.int .i64 ((rd_T54 y130 (ji16)).f0), .int .i64 (wrap64 (((rd_T54 y130 (ji16)).f1) + 1)), .string (((rd_T54 y130 (ji16)).f2) ++ (strOfNums ((l0.take ((wrap64 ((ji20) + 256)) : Int).toNat).drop ((ji20) : Int).toNat)))] 54 (0, 0))) := ⟨by (with_reducible repeat first | apply kN | apply kd | apply ka); refine blk_put (cs := #[.int .i64 ((rd_T54 y130 (ji16)).f0), .int .i64 (wrap64 (((rd_T54 y130 (ji16)).f1) + 1)), .string ((rd_T54 y130 (ji16)).f2)]) ?_ 2 _ rfl; (with_reducible repeat first | apply kN | apply kd | apply ka); exact BK134.out⟩
                have n2_ : Aside0 (Below w.heap.size w (w31.setCell ⟨gb134, 2, none⟩ (.string (((rd_T54 y130 (ji16)).f2) ++ (strOfNums ((l0.take ((wrap64 ((ji20) + 256)) : Int).toNat).drop ((ji20) : Int).toNat)))))) := ⟨by repeat (first | (with_reducible first | exact HB.out | apply bA | apply bN | apply bD | refine bS ?_ GE134.out) | exact HB.out)⟩
                (try clear HO132)
                (try clear BK134)
                (try clear HB)
                generalize (w31.setCell ⟨gb134, 2, none⟩ (.string (((rd_T54 y130 (ji16)).f2) ++ (strOfNums ((l0.take ((wrap64 ((ji20) + 256)) : Int).toNat).drop ((ji20) : Int).toNat))))) = w35 at n0_ n1_ n2_ ⊢
                have HO132 := n0_
                have BK134 := n1_
                have HB := n2_
                clear n0_ n1_ n2_
                have q_ := cells3 BK134.out; have hcz36_0 := q_.c0; have hcz36_1 := q_.c1; have hcz36_2 := q_.c2; have hfz36_0 := q_.f0; have hfz36_1 := q_.f1; have hfz36_2 := q_.f2; clear q_
                have p25 : 0 ≤ ((ji16) : Int) := of_decide_eq_true (by first | (with_reducible assumption) | assumption)
                have q25 : ((ji16) : Int) < ((y130.length : Int) : Int) := of_decide_eq_true (by first | (with_reducible assumption) | assumption)
                obtain ⟨go25, co25, eo25, gb25, gl25, cl25, HG25⟩ := Kd.R_form HO132.out (by omega)
                (first | cases eo25 | (injection eo25 with ea_ en_ ec_; (first | subst ea_ | (injection ea_ with ea_; subst ea_)); subst ec_; clear en_))
                have GB25 := Aside0.mk gb25
                have GG25 := Aside0.mk HG25
                clear gb25 gl25 HG25
                (first | simp only [add_plain] at hx133_0 | skip)
                (first | simp only [add_plain] at hx133_1 | skip)
                (first | simp only [add_plain] at hx133_2 | skip)
                obtain ⟨ce25, hcl25, hM25, hcc25, hfr25⟩ := Kd.R_elem HO132.out z54 ((ji16) : Int) p25 q25
                obtain rfl := k54_openM hM25
                have hx25_0 : w35.cell? ⟨go25, ((ji16) : Int).toNat * 3, none⟩ = some (.int .i64 ((rd_T54 y130 (ji16)).f0)) := hcc25 0 _ rfl
                have hx25_1 : w35.cell? ⟨go25, ((ji16) : Int).toNat * 3 + 1, none⟩ = some (.int .i64 ((rd_T54 y130 (ji16)).f1)) := hcc25 1 _ rfl
                have hx25_2 : w35.cell? ⟨go25, ((ji16) : Int).toNat * 3 + 2, none⟩ = some (.string ((rd_T54 y130 (ji16)).f2)) := hcc25 2 _ rfl
                have hf25_0 : w35.frozen? ⟨go25, ((ji16) : Int).toNat * 3, none⟩ = false := hfr25 0
                have hf25_1 : w35.frozen? ⟨go25, ((ji16) : Int).toNat * 3 + 1, none⟩ = false := hfr25 1
                have hf25_2 : w35.frozen? ⟨go25, ((ji16) : Int).toNat * 3 + 2, none⟩ = false := hfr25 2
                clear hcl25 hcc25 hfr25 hM25
                replace p25 := eq_true p25
                replace q25 := eq_true q25
                have HX37 := Aside0.mk (show Kd.R k54 54 w35 w.heap.size (fun k_ => k_ ≠ gb134) (.slice (some ⟨go25, 0, none⟩) y130.length co27) y130 from (by (with_reducible repeat (first | apply Kd.R_alloc | apply Kd.R_drewN | apply Kd.R_drew)); exact HO132.out))
                obtain ⟨ce37, hcl37, hM37, hcc37, hfr37⟩ := Kd.R_elem HX37.out z54 ((ji16) : Int) (of_decide_eq_true (by first | (with_reducible assumption) | assumption)) (by have h_ : ((ji16) : Int) < ((y130.length : Int) : Int) := of_decide_eq_true (by first | (with_reducible assumption) | assumption); first | exact h_ | (have e_ := (Kd.R_reads' HO132.out).1; omega) | simpa using h_)
                obtain rfl := k54_openM hM37
                have HP37 := Kd.R_seg HX37.out ((ji16) : Int) (of_decide_eq_true (by first | (with_reducible assumption) | assumption)) (by have h_ : ((ji16) : Int) < ((y130.length : Int) : Int) := of_decide_eq_true (by first | (with_reducible assumption) | assumption); first | exact h_ | (have e_ := (Kd.R_reads' HO132.out).1; omega) | simpa using h_) (seg := [.int .i64 ((rd_T54 y130 (ji16)).f0), .int .i64 (wrap64 (((rd_T54 y130 (ji16)).f1) + 1)), .string (((rd_T54 y130 (ji16)).f2) ++ (strOfNums ((l0.take ((wrap64 ((ji20) + 256)) : Int).toNat).drop ((ji20) : Int).toNat)))]) (j := 0) hcl37 hcc37 (show 3 ≤ 3 from by decide) (x' := (⟨(rd_T54 y130 (ji16)).f0, wrap64 (((rd_T54 y130 (ji16)).f1) + 1), ((rd_T54 y130 (ji16)).f2) ++ (strOfNums ((l0.take ((wrap64 ((ji20) + 256)) : Int).toNat).drop ((ji20) : Int).toNat))⟩ : S54)) (k54_mkM _ _ _ (⟨(rd_T54 y130 (ji16)).f0, wrap64 (((rd_T54 y130 (ji16)).f1) + 1), ((rd_T54 y130 (ji16)).f2) ++ (strOfNums ((l0.take ((wrap64 ((ji20) + 256)) : Int).toNat).drop ((ji20) : Int).toNat))⟩ : S54) ) (fun _ hk => hk)
                have hx37_0 := hcc37 0 _ rfl
                (try simp only [show (k54).sz = 3 from rfl, Nat.mul_one, Nat.add_zero] at hx37_0)
                have hf37_0 := hfr37 0
                (try simp only [show (k54).sz = 3 from rfl, Nat.mul_one, Nat.add_zero] at hf37_0)
                have hx37_1 := hcc37 1 _ rfl
                (try simp only [show (k54).sz = 3 from rfl, Nat.mul_one, Nat.add_zero] at hx37_1)
                have hf37_1 := hfr37 1
                (try simp only [show (k54).sz = 3 from rfl, Nat.mul_one, Nat.add_zero] at hf37_1)
                have hx37_2 := hcc37 2 _ rfl
                (try simp only [show (k54).sz = 3 from rfl, Nat.mul_one, Nat.add_zero] at hx37_2)
                have hf37_2 := hfr37 2
                (try simp only [show (k54).sz = 3 from rfl, Nat.mul_one, Nat.add_zero] at hf37_2)
                clear hcl37 hcc37 hfr37 hM37
                try go_wp2_with (first | ((with_reducible refine gate_store (t := 54) (p := 69) rfl ?_); refine store_event (t := 54) (p := 69) (v := ?vo_w38) (w1 := (((w35.setCell ⟨go25, ((ji16) : Int).toNat * 3, none⟩ (.int .i64 ((rd_T54 y130 (ji16)).f0))).setCell ⟨go25, ((ji16) : Int).toNat * 3 + 1, none⟩ (.int .i64 (wrap64 (((rd_T54 y130 (ji16)).f1) + 1)))).setCell ⟨go25, ((ji16) : Int).toNat * 3 + 2, none⟩ (.string (((rd_T54 y130 (ji16)).f2) ++ (strOfNums ((l0.take ((wrap64 ((ji20) + 256)) : Int).toNat).drop ((ji20) : Int).toNat)))))) ?hg ?ho ?hn ?hr ?_; (case ho => rfl); (case hg => rfl); (case hn => rfl); (case hr => first | (go_simp; done) | (go_simp; rfl)); intro w38 hw; have hg : w35.grownBy w38 (some go25) := (by rw [hw]; exact HP37.2); have hp_ : Kd.R k54 54 w38 w.heap.size (fun k_ => k_ ≠ gb134) (.slice (some ⟨go25, 0, none⟩) y130.length co27) y136 := (by rw [hw, Ny136.out]; exact HP37.1); clear HP37; have n0_ := Aside0.mk (hp_); have n1_ := Aside0.mk (blk_grown (g := gb134) (o := .cells #[.int .i64 ((rd_T54 y130 (ji16)).f0), .int .i64 (wrap64 (((rd_T54 y130 (ji16)).f1) + 1)), .string (((rd_T54 y130 (ji16)).f2) ++ (strOfNums ((l0.take ((wrap64 ((ji20) + 256)) : Int).toNat).drop ((ji20) : Int).toNat)))] 54 (0, 0)) (by (with_reducible repeat first | apply kN | apply kd | apply ka); exact BK134.out) hg (Kd.R_away HO132.out (fun _ hk => hk))); have n2_ := Aside0.mk ((by rw [hw]; exact below_set (below_set (below_set (HB.out) GB25.out) GB25.out) GB25.out : Below w.heap.size w w38)); clear HO132; clear BK134; clear HB; have HO132 := n0_; have BK134 := n1_; have HB := n2_; clear n0_ n1_ n2_; clear hg hw hp_))
                go_roundg kj5
                case measure => have := HK1.out; have := HJ5.out; omega
                case rel => exact ⟨(y136), (wrap64 (x5_1 + 1)), (by first | rfl | (simp; done) | (simp [*]; done)), H', ⟨by have := HK1.out; have := HJ5.out; omega⟩, ⟨by (with_reducible repeat (first | apply Kd.R_alloc | apply Kd.R_drewN | apply Kd.R_drew)); exact Kd.R_mono HO132.out (fun _ hk => trivial)⟩, ⟨by repeat (first | (with_reducible first | exact HB.out | apply bA | apply bN | apply bD | refine bS ?_ GE134.out) | exact HB.out)⟩⟩
               ·rw [if_neg c24] at H
                exact absurd H (by simp)
              ·rw [if_neg c23] at H
               exact absurd H (by simp)
             ·rw [if_neg c22] at H
              exact absurd H (by simp)
            ·rw [if_neg c21] at H
             exact absurd H (by simp)
           ·rw [if_neg c19] at H
            have c19b0 : (t128 == 1) = false := beq_eq_false_iff_ne.mpr c19
            have c19b1 : (t128 != 1) = true := bne_iff_ne.mpr c19
            obtain ⟨y137, hy137⟩ : ∃ y_ : List (S54), y_ = (y130.set ((ji16) : Int).toNat (⟨(rd_T54 y130 (ji16)).f0, wrap64 (((rd_T54 y130 (ji16)).f1) + 1), (rd_T54 y130 (ji16)).f2⟩ : S54)) := ⟨_, rfl⟩
            replace H : (leveeref32_Rows.l0 kj5 l0 y137 (wrap64 (x5_1 + 1))) = some (r1, r2) := by first | (rw [hy137]; with_reducible exact H) | (have H2_ := (Option.bind_some _ _).symm.trans H; rw [hy137]; with_reducible exact H2_) | (have H2_ := (Option.bind_some _ _).symm.trans H; with_reducible exact H2_) | with_reducible exact H | (rw [hy137]; exact H) | exact H
            have Ny137 := Aside0.mk hy137
            clear hy137
            have H' := Aside0.mk H
            clear H
            go_wp2_with (first | ((with_reducible refine gate_builtin (b := .append) (xs := #[.tmp 35, .tmp 38]) rfl ?_); (try (refine gate_guard (by rfl) ?_; dsimp only)); at_builtin; refine Kd.R_append k54 (w0 := w) w.heap.size rfl (.tmp 35) (.tmp 38) 23 54 (.agg #[(.int .i64 0), (.int .i64 0), (.string ⟨#[]⟩)]) 32 rfl Try.underlying23 info54 rfl (by decide) (by omega) u4 x4_1 (⟨t128, 0, (⟨#[]⟩ : ByteArray)⟩ : S54) [.int .i64 t128, .int .i64 0, .string (⟨#[]⟩ : ByteArray)] (fun _ => True) (fun _ => False) rfl rfl ?aP (fun _ hk => hk.elim) ?aF ?aO ?aB ?aS ?aL ?_; (case aP => exact k54_mkM _ _ _ (⟨t128, 0, (⟨#[]⟩ : ByteArray)⟩ : S54)); (case aB => exact (by repeat (first | (with_reducible first | exact HB.out | apply bA | apply bN | apply bD) | exact HB.out))); (case aF => exact (fun _ _ => trivial)); (case aO => exact (by (with_reducible repeat (first | apply Kd.R_alloc | apply Kd.R_drewN | apply Kd.R_drew)); exact HO_4.out)); (case aS => exact (below_size (by repeat (first | (with_reducible first | exact HB.out | apply bA | apply bN | apply bD) | exact HB.out)))); (case aL => have := LMc15.out; omega); intro v131 w40 ho hb hg hat; rw [← Ny130.out] at ho; have n0_ := Aside0.mk (hb); have n1_ := Aside0.mk (ho); clear HB; clear HO_4; have HB := n0_; have HO132 := n1_; clear n0_ n1_; clear ho hb hg hat; obtain ⟨Ao41, co41, eo41⟩ := Kd.R_slice HO132.out; subst eo41; have p133 : 0 ≤ ((ji16) : Int) := of_decide_eq_true (by first | (with_reducible assumption) | assumption); have q133 : (ji16) < (y130.length : Int) := of_decide_eq_true (by first | (with_reducible assumption) | assumption); obtain ⟨ad133, e133, hx133_0, hx133_1, hx133_2⟩ := at_T54 (Kd.R_reads' HO132.out).2.2 (ji16) p133 q133; cases e133; replace p133 := eq_true p133; replace q133 := eq_true q133) | ((with_reducible refine gate_dst (N := 7) rfl ?_); (try (refine gate_guard (by rfl) ?_; dsimp only)); refine box_event ?hg (N := 7) ?hd (cs := #[.int .i64 0, .int .i64 0, .string (⟨#[]⟩ : ByteArray)]) (t := 54) ?hr ?_; (case hd => rfl); (case hg => rfl); (case hr => first | (go_simp; done) | (go_simp; rfl)); intro gb134 hg w42 hbox hb; have n0_ := Aside0.mk (Kd.R_below (Kd.R_elderB (by (with_reducible repeat (first | apply Kd.R_alloc | apply Kd.R_drewN | apply Kd.R_drew)); exact HO132.out) gb134 (Nat.le_of_eq hg.symm)) hb); have n1_ := Aside0.mk (below_step (by repeat (first | (with_reducible first | exact HB.out | apply bA | apply bN | apply bD) | exact HB.out)) hb); have n2_ := Aside0.mk (hbox); have n3_ := Aside0.mk ((by rw [hg]; exact (below_size (by repeat (first | (with_reducible first | exact HB.out | apply bA | apply bN | apply bD) | exact HB.out))) : w.heap.size ≤ gb134)); have n4_ := Aside0.mk ((by rw [hg]; exact (below_size (by repeat (first | (with_reducible first | exact HB.out | apply bA | apply bN | apply bD) | exact HB.out))) : w.heap.size ≤ gb134)); clear HO132; clear HB; have HO132 := n0_; have HB := n1_; have BK134 := n2_; have GW134 := n3_; have GE134 := n4_; clear n0_ n1_ n2_ n3_ n4_; clear hb hbox hg; have q_ := cells3 BK134.out; have hcz43_0 := q_.c0; have hcz43_1 := q_.c1; have hcz43_2 := q_.c2; have hfz43_0 := q_.f0; have hfz43_1 := q_.f1; have hfz43_2 := q_.f2; clear q_) | ((with_reducible refine gate_store (t := 54) (p := 7) rfl ?_); refine store_event (t := 54) (p := 7) (v := ?vo_w44) (w1 := (((w42.setCell ⟨gb134, 0, none⟩ (.int .i64 ((rd_T54 y130 (ji16)).f0))).setCell ⟨gb134, 1, none⟩ (.int .i64 ((rd_T54 y130 (ji16)).f1))).setCell ⟨gb134, 2, none⟩ (.string ((rd_T54 y130 (ji16)).f2)))) ?hg ?ho ?hn ?hr ?_; (case ho => rfl); (case hg => rfl); (case hn => rfl); (case hr => first | (go_simp; done) | (go_simp; rfl)); intro w44 hw; have n0_ : Aside0 (Kd.R k54 54 w44 w.heap.size (fun k_ => k_ ≠ gb134) (.slice (some ad133) y130.length co41) y130) := ⟨(by rw [hw]; exact (by (with_reducible repeat (first | apply Kd.R_alloc | apply Kd.R_drewN | apply Kd.R_drew)); exact Kd.R_mono (Kd.R_far (p := ⟨gb134, 2, none⟩) (Kd.R_far (p := ⟨gb134, 1, none⟩) (Kd.R_far (p := ⟨gb134, 0, none⟩) (Kd.R_mono HO132.out (fun k_ hk => (⟨hk, hk.2⟩ : _ ∧ k_ ≠ gb134))) (fun _ hk => hk.2) (.int .i64 ((rd_T54 y130 (ji16)).f0))) (fun _ hk => hk.2) (.int .i64 ((rd_T54 y130 (ji16)).f1))) (fun _ hk => hk.2) (.string ((rd_T54 y130 (ji16)).f2))) (fun _ hk => hk.1.2)))⟩; have n1_ : Aside0 (w44.heap[gb134]? = some (.cells #[.int .i64 ((rd_T54 y130 (ji16)).f0), .int .i64 ((rd_T54 y130 (ji16)).f1), .string ((rd_T54 y130 (ji16)).f2)] 54 (0, 0))) := ⟨(by rw [hw]; exact (by (with_reducible repeat first | apply kN | apply kd | apply ka); refine blk_put (cs := #[.int .i64 ((rd_T54 y130 (ji16)).f0), .int .i64 ((rd_T54 y130 (ji16)).f1), .string (⟨#[]⟩ : ByteArray)]) ?_ 2 _ rfl; (with_reducible repeat first | apply kN | apply kd | apply ka); refine blk_put (cs := #[.int .i64 ((rd_T54 y130 (ji16)).f0), .int .i64 0, .string (⟨#[]⟩ : ByteArray)]) ?_ 1 _ rfl; (with_reducible repeat first | apply kN | apply kd | apply ka); refine blk_put (cs := #[.int .i64 0, .int .i64 0, .string (⟨#[]⟩ : ByteArray)]) ?_ 0 _ rfl; (with_reducible repeat first | apply kN | apply kd | apply ka); exact BK134.out))⟩; have n2_ : Aside0 (Below w.heap.size w w44) := ⟨(by rw [hw]; exact (by repeat (first | (with_reducible first | exact HB.out | apply bA | apply bN | apply bD | refine bS ?_ GE134.out) | exact HB.out)))⟩; clear hw; clear HO132; clear BK134; clear HB; have HO132 := n0_; have BK134 := n1_; have HB := n2_; clear n0_ n1_ n2_; have q_ := cells3 BK134.out; have hcz45_0 := q_.c0; have hcz45_1 := q_.c1; have hcz45_2 := q_.c2; have hfz45_0 := q_.f0; have hfz45_1 := q_.f1; have hfz45_2 := q_.f2; clear q_) | ((with_reducible refine gate_store (t := 3) (p := 49) rfl ?_); refine store_event (t := 3) (p := 49) (v := ?vo_w46) (w1 := (w44.setCell ⟨gb134, 1, none⟩ (.int .i64 (wrap64 (((rd_T54 y130 (ji16)).f1) + 1))))) ?hg ?ho ?hn ?hr ?_; (case ho => rfl); (case hg => rfl); (case hn => rfl); (case hr => first | (go_simp; done) | (go_simp; rfl)); intro w46 hw; have n0_ : Aside0 (Kd.R k54 54 w46 w.heap.size (fun k_ => k_ ≠ gb134) (.slice (some ad133) y130.length co41) y130) := ⟨(by rw [hw]; exact (by (with_reducible repeat (first | apply Kd.R_alloc | apply Kd.R_drewN | apply Kd.R_drew)); exact Kd.R_mono (Kd.R_far (p := ⟨gb134, 1, none⟩) (Kd.R_mono HO132.out (fun k_ hk => (⟨hk, hk⟩ : _ ∧ k_ ≠ gb134))) (fun _ hk => hk.2) (.int .i64 (wrap64 (((rd_T54 y130 (ji16)).f1) + 1)))) (fun _ hk => hk.1)))⟩; have n1_ : Aside0 (w46.heap[gb134]? = some (.cells #[.int .i64 ((rd_T54 y130 (ji16)).f0), .int .i64 (wrap64 (((rd_T54 y130 (ji16)).f1) + 1)), .string ((rd_T54 y130 (ji16)).f2)] 54 (0, 0))) := ⟨(by rw [hw]; exact (by (with_reducible repeat first | apply kN | apply kd | apply ka); refine blk_put (cs := #[.int .i64 ((rd_T54 y130 (ji16)).f0), .int .i64 ((rd_T54 y130 (ji16)).f1), .string ((rd_T54 y130 (ji16)).f2)]) ?_ 1 _ rfl; (with_reducible repeat first | apply kN | apply kd | apply ka); exact BK134.out))⟩; have n2_ : Aside0 (Below w.heap.size w w46) := ⟨(by rw [hw]; exact (by repeat (first | (with_reducible first | exact HB.out | apply bA | apply bN | apply bD | refine bS ?_ GE134.out) | exact HB.out)))⟩; clear hw; clear HO132; clear BK134; clear HB; have HO132 := n0_; have BK134 := n1_; have HB := n2_; clear n0_ n1_ n2_; have q_ := cells3 BK134.out; have hcz47_0 := q_.c0; have hcz47_1 := q_.c1; have hcz47_2 := q_.c2; have hfz47_0 := q_.f0; have hfz47_1 := q_.f1; have hfz47_2 := q_.f2; clear q_; have p39 : 0 ≤ ((ji16) : Int) := of_decide_eq_true (by first | (with_reducible assumption) | assumption); have q39 : ((ji16) : Int) < ((y130.length : Int) : Int) := of_decide_eq_true (by first | (with_reducible assumption) | assumption); obtain ⟨go39, co39, eo39, gb39, gl39, cl39, HG39⟩ := Kd.R_form HO132.out (by omega); (first | cases eo39 | (injection eo39 with ea_ en_ ec_; (first | subst ea_ | (injection ea_ with ea_; subst ea_)); subst ec_; clear en_)); have GB39 := Aside0.mk gb39; have GG39 := Aside0.mk HG39; clear gb39 gl39 HG39; (first | simp only [add_plain] at hx133_0 | skip); (first | simp only [add_plain] at hx133_1 | skip); (first | simp only [add_plain] at hx133_2 | skip); obtain ⟨ce39, hcl39, hM39, hcc39, hfr39⟩ := Kd.R_elem HO132.out z54 ((ji16) : Int) p39 q39; obtain rfl := k54_openM hM39; have hx39_0 : w46.cell? ⟨go39, ((ji16) : Int).toNat * 3, none⟩ = some (.int .i64 ((rd_T54 y130 (ji16)).f0)) := hcc39 0 _ rfl; have hx39_1 : w46.cell? ⟨go39, ((ji16) : Int).toNat * 3 + 1, none⟩ = some (.int .i64 ((rd_T54 y130 (ji16)).f1)) := hcc39 1 _ rfl; have hx39_2 : w46.cell? ⟨go39, ((ji16) : Int).toNat * 3 + 2, none⟩ = some (.string ((rd_T54 y130 (ji16)).f2)) := hcc39 2 _ rfl; have hf39_0 : w46.frozen? ⟨go39, ((ji16) : Int).toNat * 3, none⟩ = false := hfr39 0; have hf39_1 : w46.frozen? ⟨go39, ((ji16) : Int).toNat * 3 + 1, none⟩ = false := hfr39 1; have hf39_2 : w46.frozen? ⟨go39, ((ji16) : Int).toNat * 3 + 2, none⟩ = false := hfr39 2; clear hcl39 hcc39 hfr39 hM39; replace p39 := eq_true p39; replace q39 := eq_true q39; have HX48 := Aside0.mk (show Kd.R k54 54 w46 w.heap.size (fun k_ => k_ ≠ gb134) (.slice (some ⟨go39, 0, none⟩) y130.length co41) y130 from (by (with_reducible repeat (first | apply Kd.R_alloc | apply Kd.R_drewN | apply Kd.R_drew)); exact HO132.out)); obtain ⟨ce48, hcl48, hM48, hcc48, hfr48⟩ := Kd.R_elem HX48.out z54 ((ji16) : Int) (of_decide_eq_true (by first | (with_reducible assumption) | assumption)) (by have h_ : ((ji16) : Int) < ((y130.length : Int) : Int) := of_decide_eq_true (by first | (with_reducible assumption) | assumption); first | exact h_ | (have e_ := (Kd.R_reads' HO132.out).1; omega) | simpa using h_); obtain rfl := k54_openM hM48; have HP48 := Kd.R_seg HX48.out ((ji16) : Int) (of_decide_eq_true (by first | (with_reducible assumption) | assumption)) (by have h_ : ((ji16) : Int) < ((y130.length : Int) : Int) := of_decide_eq_true (by first | (with_reducible assumption) | assumption); first | exact h_ | (have e_ := (Kd.R_reads' HO132.out).1; omega) | simpa using h_) (seg := [.int .i64 ((rd_T54 y130 (ji16)).f0), .int .i64 (wrap64 (((rd_T54 y130 (ji16)).f1) + 1)), .string ((rd_T54 y130 (ji16)).f2)]) (j := 0) hcl48 hcc48 (show 3 ≤ 3 from by decide) (x' := (⟨(rd_T54 y130 (ji16)).f0, wrap64 (((rd_T54 y130 (ji16)).f1) + 1), (rd_T54 y130 (ji16)).f2⟩ : S54)) (k54_mkM _ _ _ (⟨(rd_T54 y130 (ji16)).f0, wrap64 (((rd_T54 y130 (ji16)).f1) + 1), (rd_T54 y130 (ji16)).f2⟩ : S54) ) (fun _ hk => hk); have hx48_0 := hcc48 0 _ rfl; (try simp only [show (k54).sz = 3 from rfl, Nat.mul_one, Nat.add_zero] at hx48_0); have hf48_0 := hfr48 0; (try simp only [show (k54).sz = 3 from rfl, Nat.mul_one, Nat.add_zero] at hf48_0); have hx48_1 := hcc48 1 _ rfl; (try simp only [show (k54).sz = 3 from rfl, Nat.mul_one, Nat.add_zero] at hx48_1); have hf48_1 := hfr48 1; (try simp only [show (k54).sz = 3 from rfl, Nat.mul_one, Nat.add_zero] at hf48_1); have hx48_2 := hcc48 2 _ rfl; (try simp only [show (k54).sz = 3 from rfl, Nat.mul_one, Nat.add_zero] at hx48_2); have hf48_2 := hfr48 2; (try simp only [show (k54).sz = 3 from rfl, Nat.mul_one, Nat.add_zero] at hf48_2); clear hcl48 hcc48 hfr48 hM48) | ((with_reducible refine gate_store (t := 54) (p := 69) rfl ?_); refine store_event (t := 54) (p := 69) (v := ?vo_w49) (w1 := (((w46.setCell ⟨go39, ((ji16) : Int).toNat * 3, none⟩ (.int .i64 ((rd_T54 y130 (ji16)).f0))).setCell ⟨go39, ((ji16) : Int).toNat * 3 + 1, none⟩ (.int .i64 (wrap64 (((rd_T54 y130 (ji16)).f1) + 1)))).setCell ⟨go39, ((ji16) : Int).toNat * 3 + 2, none⟩ (.string ((rd_T54 y130 (ji16)).f2)))) ?hg ?ho ?hn ?hr ?_; (case ho => rfl); (case hg => rfl); (case hn => rfl); (case hr => first | (go_simp; done) | (go_simp; rfl)); intro w49 hw; have hg : w46.grownBy w49 (some go39) := (by rw [hw]; exact HP48.2); have hp_ : Kd.R k54 54 w49 w.heap.size (fun k_ => k_ ≠ gb134) (.slice (some ⟨go39, 0, none⟩) y130.length co41) y137 := (by rw [hw, Ny137.out]; exact HP48.1); clear HP48; have n0_ := Aside0.mk (hp_); have n1_ := Aside0.mk (blk_grown (g := gb134) (o := .cells #[.int .i64 ((rd_T54 y130 (ji16)).f0), .int .i64 (wrap64 (((rd_T54 y130 (ji16)).f1) + 1)), .string ((rd_T54 y130 (ji16)).f2)] 54 (0, 0)) (by (with_reducible repeat first | apply kN | apply kd | apply ka); exact BK134.out) hg (Kd.R_away HO132.out (fun _ hk => hk))); have n2_ := Aside0.mk ((by rw [hw]; exact below_set (below_set (below_set (HB.out) GB39.out) GB39.out) GB39.out : Below w.heap.size w w49)); clear HO132; clear BK134; clear HB; have HO132 := n0_; have BK134 := n1_; have HB := n2_; clear n0_ n1_ n2_; clear hg hw hp_))
            go_roundg kj5
            case measure => have := HK1.out; have := HJ5.out; omega
            case rel => exact ⟨(y137), (wrap64 (x5_1 + 1)), (by first | rfl | (simp; done) | (simp [*]; done)), H', ⟨by have := HK1.out; have := HJ5.out; omega⟩, ⟨by (with_reducible repeat (first | apply Kd.R_alloc | apply Kd.R_drewN | apply Kd.R_drew)); exact Kd.R_mono HO132.out (fun _ hk => trivial)⟩, ⟨by repeat (first | (with_reducible first | exact HB.out | apply bA | apply bN | apply bD | refine bS ?_ GE134.out) | exact HB.out)⟩⟩
          ·rw [if_neg c18] at H
           exact absurd H (by simp)
         ·rw [if_neg c17] at H
          exact absurd H (by simp)
        ·rw [if_neg c15] at H
         exact absurd H (by simp)
       ·replace c14 := Bool.eq_false_iff.mpr c14
        subst c14
        have H1 : (if 0 ≤ (wrap64 ((x4_1.length : Int) - 1)) then (if (wrap64 ((x4_1.length : Int) - 1)) < (x4_1.length : Int) then (if t128 = 1 then (if 0 ≤ (wrap64 (256 * x5_1)) then (if (wrap64 (256 * x5_1)) ≤ (wrap64 ((wrap64 (256 * x5_1)) + 256)) then (if (wrap64 ((wrap64 (256 * x5_1)) + 256)) ≤ (l0.length : Int) then (if ((rd_T54 x4_1 (wrap64 ((x4_1.length : Int) - 1))).f2).size + (strOfNums ((l0.take ((wrap64 ((wrap64 (256 * x5_1)) + 256)) : Int).toNat).drop ((wrap64 (256 * x5_1)) : Int).toNat)).size ≤ 9223372036854775807 then (leveeref32_Rows.l0 kj5 l0 (x4_1.set ((wrap64 ((x4_1.length : Int) - 1)) : Int).toNat (⟨(rd_T54 x4_1 (wrap64 ((x4_1.length : Int) - 1))).f0, wrap64 (((rd_T54 x4_1 (wrap64 ((x4_1.length : Int) - 1))).f1) + 1), ((rd_T54 x4_1 (wrap64 ((x4_1.length : Int) - 1))).f2) ++ (strOfNums ((l0.take ((wrap64 ((wrap64 (256 * x5_1)) + 256)) : Int).toNat).drop ((wrap64 (256 * x5_1)) : Int).toNat))⟩ : S54)) (wrap64 (x5_1 + 1))) else (none)) else (none)) else (none)) else (none)) else (leveeref32_Rows.l0 kj5 l0 (x4_1.set ((wrap64 ((x4_1.length : Int) - 1)) : Int).toNat (⟨(rd_T54 x4_1 (wrap64 ((x4_1.length : Int) - 1))).f0, wrap64 (((rd_T54 x4_1 (wrap64 ((x4_1.length : Int) - 1))).f1) + 1), (rd_T54 x4_1 (wrap64 ((x4_1.length : Int) - 1))).f2⟩ : S54)) (wrap64 (x5_1 + 1)))) else (none)) else (none)) = some (r1, r2) := by rw [if_neg (show ¬ (false = true) by decide)] at H; exact H
        clear H
        have H := H1
        clear H1
        obtain ⟨ji50, hji50⟩ : ∃ j_ : Int, (wrap64 ((x4_1.length : Int) - 1)) = j_ := ⟨_, rfl⟩
        replace H : (if 0 ≤ (ji50) then (if (ji50) < (x4_1.length : Int) then (if t128 = 1 then (if 0 ≤ (wrap64 (256 * x5_1)) then (if (wrap64 (256 * x5_1)) ≤ (wrap64 ((wrap64 (256 * x5_1)) + 256)) then (if (wrap64 ((wrap64 (256 * x5_1)) + 256)) ≤ (l0.length : Int) then (if ((rd_T54 x4_1 (ji50)).f2).size + (strOfNums ((l0.take ((wrap64 ((wrap64 (256 * x5_1)) + 256)) : Int).toNat).drop ((wrap64 (256 * x5_1)) : Int).toNat)).size ≤ 9223372036854775807 then (leveeref32_Rows.l0 kj5 l0 (x4_1.set ((ji50) : Int).toNat (⟨(rd_T54 x4_1 (ji50)).f0, wrap64 (((rd_T54 x4_1 (ji50)).f1) + 1), ((rd_T54 x4_1 (ji50)).f2) ++ (strOfNums ((l0.take ((wrap64 ((wrap64 (256 * x5_1)) + 256)) : Int).toNat).drop ((wrap64 (256 * x5_1)) : Int).toNat))⟩ : S54)) (wrap64 (x5_1 + 1))) else (none)) else (none)) else (none)) else (none)) else (leveeref32_Rows.l0 kj5 l0 (x4_1.set ((ji50) : Int).toNat (⟨(rd_T54 x4_1 (ji50)).f0, wrap64 (((rd_T54 x4_1 (ji50)).f1) + 1), (rd_T54 x4_1 (ji50)).f2⟩ : S54)) (wrap64 (x5_1 + 1)))) else (none)) else (none)) = some (r1, r2) := by first | (rw [hji50] at H; exact H) | (simp only [hji50] at H ⊢; exact H)
        have hji50w : (IntKind.i64.wrap ((x4_1.length : Int) - 1)) = ji50 := (i64_w _).trans hji50
        by_cases c51 : 0 ≤ (ji50)
        ·rw [if_pos c51] at H
         have c51b0 : decide (0 ≤ (ji50)) = true := decide_eq_true c51
         clear c51
         by_cases c52 : (ji50) < (x4_1.length : Int)
         ·rw [if_pos c52] at H
          have c52b0 : decide ((ji50) < (x4_1.length : Int)) = true := decide_eq_true c52
          clear c52
          by_cases c53 : t128 = 1
          ·rw [if_pos c53] at H
           have c53b0 : (t128 == 1) = true := beq_iff_eq.mpr c53
           have c53b1 : (t128 != 1) = false := bne_eq_false_iff_eq.mpr c53
           clear c53
           obtain ⟨ji54, hji54⟩ : ∃ j_ : Int, (wrap64 (256 * x5_1)) = j_ := ⟨_, rfl⟩
           replace H : (if 0 ≤ (ji54) then (if (ji54) ≤ (wrap64 ((ji54) + 256)) then (if (wrap64 ((ji54) + 256)) ≤ (l0.length : Int) then (if ((rd_T54 x4_1 (ji50)).f2).size + (strOfNums ((l0.take ((wrap64 ((ji54) + 256)) : Int).toNat).drop ((ji54) : Int).toNat)).size ≤ 9223372036854775807 then (leveeref32_Rows.l0 kj5 l0 (x4_1.set ((ji50) : Int).toNat (⟨(rd_T54 x4_1 (ji50)).f0, wrap64 (((rd_T54 x4_1 (ji50)).f1) + 1), ((rd_T54 x4_1 (ji50)).f2) ++ (strOfNums ((l0.take ((wrap64 ((ji54) + 256)) : Int).toNat).drop ((ji54) : Int).toNat))⟩ : S54)) (wrap64 (x5_1 + 1))) else (none)) else (none)) else (none)) else (none)) = some (r1, r2) := by first | (rw [hji54] at H; exact H) | (simp only [hji54] at H ⊢; exact H)
           have hji54w : (IntKind.i64.wrap (256 * x5_1)) = ji54 := (i64_w _).trans hji54
           by_cases c55 : 0 ≤ (ji54)
           ·rw [if_pos c55] at H
            have c55b0 := eq_true c55
            have c55b1 : decide (0 ≤ (ji54)) = true := decide_eq_true c55
            clear c55
            by_cases c56 : (ji54) ≤ (wrap64 ((ji54) + 256))
            ·rw [if_pos c56] at H
             have c56b0 := eq_true c56
             have c56b1 : decide ((ji54) ≤ (wrap64 ((ji54) + 256))) = true := decide_eq_true c56
             by_cases c57 : (wrap64 ((ji54) + 256)) ≤ (l0.length : Int)
             ·rw [if_pos c57] at H
              have c57b0 := eq_true c57
              have c57b1 : decide ((wrap64 ((ji54) + 256)) ≤ (l0.length : Int)) = true := decide_eq_true c57
              by_cases c58 : ((rd_T54 x4_1 (ji50)).f2).size + (strOfNums ((l0.take ((wrap64 ((ji54) + 256)) : Int).toNat).drop ((ji54) : Int).toNat)).size ≤ 9223372036854775807
              ·rw [if_pos c58] at H
               have c58b0 := eq_true c58
               have c58b1 : decide (((rd_T54 x4_1 (ji50)).f2).size + (strOfNums ((l0.take ((wrap64 ((ji54) + 256)) : Int).toNat).drop ((ji54) : Int).toNat)).size ≤ 9223372036854775807) = true := decide_eq_true c58
               try have c58b2 : (9223372036854775807 < ((rd_T54 x4_1 (ji50)).f2).size + (strOfNums ((l0.take ((wrap64 ((ji54) + 256)) : Int).toNat).drop ((ji54) : Int).toNat)).size) = False := eq_false (Nat.not_lt.2 c58)
               obtain ⟨y141, hy141⟩ : ∃ y_ : List (S54), y_ = (x4_1.set ((ji50) : Int).toNat (⟨(rd_T54 x4_1 (ji50)).f0, wrap64 (((rd_T54 x4_1 (ji50)).f1) + 1), ((rd_T54 x4_1 (ji50)).f2) ++ (strOfNums ((l0.take ((wrap64 ((ji54) + 256)) : Int).toNat).drop ((ji54) : Int).toNat))⟩ : S54)) := ⟨_, rfl⟩
               replace H : (leveeref32_Rows.l0 kj5 l0 y141 (wrap64 (x5_1 + 1))) = some (r1, r2) := by first | (rw [hy141]; with_reducible exact H) | (have H2_ := (Option.bind_some _ _).symm.trans H; rw [hy141]; with_reducible exact H2_) | (have H2_ := (Option.bind_some _ _).symm.trans H; with_reducible exact H2_) | with_reducible exact H | (rw [hy141]; exact H) | exact H
               have Ny141 := Aside0.mk hy141
               clear hy141
               have H' := Aside0.mk H
               clear H
               obtain ⟨Ao60, co60, eo60⟩ := Kd.R_slice HO_4.out
               subst eo60
               have p138 : 0 ≤ ((ji50) : Int) := of_decide_eq_true (by first | (with_reducible assumption) | assumption)
               have q138 : (ji50) < (x4_1.length : Int) := of_decide_eq_true (by first | (with_reducible assumption) | assumption)
               obtain ⟨ad138, e138, hx138_0, hx138_1, hx138_2⟩ := at_T54 (Kd.R_reads' HO_4.out).2.2 (ji50) p138 q138
               cases e138
               replace p138 := eq_true p138
               replace q138 := eq_true q138
               try go_wp2_with (first | ((with_reducible refine gate_dst (N := 7) rfl ?_); (try (refine gate_guard (by rfl) ?_; dsimp only)); refine box_event ?hg (N := 7) ?hd (cs := #[.int .i64 0, .int .i64 0, .string (⟨#[]⟩ : ByteArray)]) (t := 54) ?hr ?_; (case hd => rfl); (case hg => rfl); (case hr => first | (go_simp; done) | (go_simp; rfl)); intro gb139 hg w61 hbox hb; have n0_ := Aside0.mk (Kd.R_below (Kd.R_elderB (by (with_reducible repeat (first | apply Kd.R_alloc | apply Kd.R_drewN | apply Kd.R_drew)); exact HO_4.out) gb139 (Nat.le_of_eq hg.symm)) hb); have n1_ := Aside0.mk (below_step (by repeat (first | (with_reducible first | exact HB.out | apply bA | apply bN | apply bD) | exact HB.out)) hb); have n2_ := Aside0.mk (hbox); have n3_ := Aside0.mk ((by rw [hg]; exact (below_size (by repeat (first | (with_reducible first | exact HB.out | apply bA | apply bN | apply bD) | exact HB.out))) : w.heap.size ≤ gb139)); have n4_ := Aside0.mk ((by rw [hg]; exact (below_size (by repeat (first | (with_reducible first | exact HB.out | apply bA | apply bN | apply bD) | exact HB.out))) : w.heap.size ≤ gb139)); clear HO_4; clear HB; have HO_4 := n0_; have HB := n1_; have BK139 := n2_; have GW139 := n3_; have GE139 := n4_; clear n0_ n1_ n2_ n3_ n4_; clear hb hbox hg; have q_ := cells3 BK139.out; have hcz62_0 := q_.c0; have hcz62_1 := q_.c1; have hcz62_2 := q_.c2; have hfz62_0 := q_.f0; have hfz62_1 := q_.f1; have hfz62_2 := q_.f2; clear q_))
               have n0_ : Aside0 (Kd.R k54 54 ((((w61.setCell ⟨gb139, 0, none⟩ (.int .i64 ((rd_T54 x4_1 (ji50)).f0))).setCell ⟨gb139, 1, none⟩ (.int .i64 ((rd_T54 x4_1 (ji50)).f1))).setCell ⟨gb139, 2, none⟩ (.string ((rd_T54 x4_1 (ji50)).f2))).setCell ⟨gb139, 1, none⟩ (.int .i64 (wrap64 (((rd_T54 x4_1 (ji50)).f1) + 1)))) w.heap.size (fun k_ => k_ ≠ gb139) (.slice (some ad138) x4_1.length co60) x4_1) := ⟨by (with_reducible repeat (first | apply Kd.R_alloc | apply Kd.R_drewN | apply Kd.R_drew)); exact Kd.R_mono (Kd.R_far (p := ⟨gb139, 1, none⟩) (Kd.R_far (p := ⟨gb139, 2, none⟩) (Kd.R_far (p := ⟨gb139, 1, none⟩) (Kd.R_far (p := ⟨gb139, 0, none⟩) (Kd.R_mono HO_4.out (fun k_ hk => (⟨hk, hk.2⟩ : _ ∧ k_ ≠ gb139))) (fun _ hk => hk.2) (.int .i64 ((rd_T54 x4_1 (ji50)).f0))) (fun _ hk => hk.2) (.int .i64 ((rd_T54 x4_1 (ji50)).f1))) (fun _ hk => hk.2) (.string ((rd_T54 x4_1 (ji50)).f2))) (fun _ hk => hk.2) (.int .i64 (wrap64 (((rd_T54 x4_1 (ji50)).f1) + 1)))) (fun _ hk => hk.1.2)⟩
               have n1_ : Aside0 (((((w61.setCell ⟨gb139, 0, none⟩ (.int .i64 ((rd_T54 x4_1 (ji50)).f0))).setCell ⟨gb139, 1, none⟩ (.int .i64 ((rd_T54 x4_1 (ji50)).f1))).setCell ⟨gb139, 2, none⟩ (.string ((rd_T54 x4_1 (ji50)).f2))).setCell ⟨gb139, 1, none⟩ (.int .i64 (wrap64 (((rd_T54 x4_1 (ji50)).f1) + 1)))).heap[gb139]? = some (.cells #[.int .i64 ((rd_T54 x4_1 (ji50)).f0), .int .i64 (wrap64 (((rd_T54 x4_1 (ji50)).f1) + 1)), .string ((rd_T54 x4_1 (ji50)).f2)] 54 (0, 0))) := ⟨by (with_reducible repeat first | apply kN | apply kd | apply ka); refine blk_put (cs := #[.int .i64 ((rd_T54 x4_1 (ji50)).f0), .int .i64 ((rd_T54 x4_1 (ji50)).f1), .string ((rd_T54 x4_1 (ji50)).f2)]) ?_ 1 _ rfl; (with_reducible repeat first | apply kN | apply kd | apply ka); refine blk_put (cs := #[.int .i64 ((rd_T54 x4_1 (ji50)).f0), .int .i64 ((rd_T54 x4_1 (ji50)).f1), .string (⟨#[]⟩ : ByteArray)]) ?_ 2 _ rfl; (with_reducible repeat first | apply kN | apply kd | apply ka); refine blk_put (cs := #[.int .i64 ((rd_T54 x4_1 (ji50)).f0), .int .i64 0, .string (⟨#[]⟩ : ByteArray)]) ?_ 1 _ rfl; (with_reducible repeat first | apply kN | apply kd | apply ka); refine blk_put (cs := #[.int .i64 0, .int .i64 0, .string (⟨#[]⟩ : ByteArray)]) ?_ 0 _ rfl; (with_reducible repeat first | apply kN | apply kd | apply ka); exact BK139.out⟩
               have n2_ : Aside0 (Below w.heap.size w ((((w61.setCell ⟨gb139, 0, none⟩ (.int .i64 ((rd_T54 x4_1 (ji50)).f0))).setCell ⟨gb139, 1, none⟩ (.int .i64 ((rd_T54 x4_1 (ji50)).f1))).setCell ⟨gb139, 2, none⟩ (.string ((rd_T54 x4_1 (ji50)).f2))).setCell ⟨gb139, 1, none⟩ (.int .i64 (wrap64 (((rd_T54 x4_1 (ji50)).f1) + 1))))) := ⟨by repeat (first | (with_reducible first | exact HB.out | apply bA | apply bN | apply bD | refine bS ?_ GE139.out) | exact HB.out)⟩
               (try clear HO_4)
               (try clear BK139)
               (try clear HB)
               generalize ((((w61.setCell ⟨gb139, 0, none⟩ (.int .i64 ((rd_T54 x4_1 (ji50)).f0))).setCell ⟨gb139, 1, none⟩ (.int .i64 ((rd_T54 x4_1 (ji50)).f1))).setCell ⟨gb139, 2, none⟩ (.string ((rd_T54 x4_1 (ji50)).f2))).setCell ⟨gb139, 1, none⟩ (.int .i64 (wrap64 (((rd_T54 x4_1 (ji50)).f1) + 1)))) = w63 at n0_ n1_ n2_ ⊢
               have HO_4 := n0_
               have BK139 := n1_
               have HB := n2_
               clear n0_ n1_ n2_
               have n0_ := Aside0.mk (Kd.R_drew HO_4.out)
               have n1_ := Aside0.mk (blk_drew BK139.out)
               have n2_ := Aside0.mk (below_drew1 HB.out)
               clear HO_4
               clear BK139
               clear HB
               have HO_4 := n0_
               have BK139 := n1_
               have HB := n2_
               clear n0_ n1_ n2_
               obtain ⟨i065, hi065, _, hsz65, _⟩ := info_parts info5
               obtain ⟨A65, hcut65, hA65, hC65⟩ := print_mid_of (P := Try.prog) (Value.int .u8) 0 22 5 .i64 .i64 Try.underlying22 hi065 hsz65 A0 c0 l0 (ji54) (wrap64 ((ji54) + 256)) (of_decide_eq_true (by first | (with_reducible assumption) | assumption)) (by first | omega | exact of_decide_eq_true (by first | (with_reducible assumption) | assumption)) (of_decide_eq_true (by first | (with_reducible assumption) | assumption)) HC0.out
               have HR140 := Aside0.mk (Kd.C_of_reads (h1 := fun _ => rfl) (hA65 _ (Kd.reads_of_C HR0.out)))
               have HC140 := Aside0.mk hC65
               clear hA65 hC65 hi065 hsz65
               refine start_ (n := 13) (S := fun w' => w'.cell? ⟨gb139, 0, none⟩ = some (.int .i64 ((rd_T54 x4_1 (ji50)).f0)) ∧ w'.cell? ⟨gb139, 1, none⟩ = some (.int .i64 (wrap64 (((rd_T54 x4_1 (ji50)).f1) + 1))) ∧ w'.cell? ⟨gb139, 2, none⟩ = some (.string ((rd_T54 x4_1 (ji50)).f2))) (ds := [12]) #[false, false, false, false, false, false, false, false, false, false, false, false, false] (by kernel_rfl) rfl rfl ⟨(blk_cell BK139.out 0).trans rfl, (blk_cell BK139.out 1).trans rfl, (blk_cell BK139.out 2).trans rfl⟩ (fun hHeld => ?_); refine with_tabW leveeref32_Rows.tab13 leveeref32_Rows.bits13 (fun HT_ HW_ => ?_)
               generalize w63.drew = w64 at HO_4 BK139 HB HR140 hHeld ⊢
               refine pure_ (i := 0) (N := some 52) (v := ?_) (a' := ?_) #[true, false, false, false, false, false, false, false, false, false, false, false, false] rfl rfl (any_of HT_.out (by kernel_rfl)) (fun _ _ _ h => h) (Or.inl ⟨by rfl, ?_⟩) ?_ ?_
               rotate_left
               ·intro w'
                go_simp
                with_reducible rfl
               rotate_left
               ·simp only [Act.put, List.setIfInBounds_toArray, List.set_cons_zero, List.set_cons_succ, i64_w, i32_w]
                rfl
               refine pure_ (i := 2) (N := some 54) (v := ?_) (a' := ?_) #[true, false, true, false, false, false, false, false, false, false, false, false, false] rfl rfl (any_of HT_.out (by kernel_rfl)) (fun _ _ _ h => h) (Or.inl ⟨by rfl, ?_⟩) ?_ ?_
               rotate_left
               ·intro w'
                go_simp
                with_reducible rfl
               rotate_left
               ·simp only [Act.put, List.setIfInBounds_toArray, List.set_cons_zero, List.set_cons_succ, i64_w, i32_w]
                rfl
               refine pure_ (i := 3) (N := some 55) (v := ?_) (a' := ?_) #[true, false, true, true, false, false, false, false, false, false, false, false, false] rfl rfl (any_of HT_.out (by kernel_rfl)) (fun _ _ _ h => h) (Or.inl ⟨by rfl, ?_⟩) ?_ ?_
               rotate_left
               ·intro w'
                go_simp
                with_reducible rfl
               rotate_left
               ·simp only [Act.put, List.setIfInBounds_toArray, List.set_cons_zero, List.set_cons_succ, i64_w, i32_w]
                rfl
               refine pure_ (i := 4) (N := some 56) (v := ?_) (a' := ?_) #[true, false, true, true, true, false, false, false, false, false, false, false, false] rfl rfl (any_of HT_.out (by kernel_rfl)) (fun _ _ _ h => h) (Or.inl ⟨by rfl, ?_⟩) ?_ ?_
               rotate_left
               ·intro w'
                go_simp
                with_reducible rfl
               rotate_left
               ·simp only [Act.put, List.setIfInBounds_toArray, List.set_cons_zero, List.set_cons_succ, i64_w, i32_w]
                rfl
               refine pure_ (i := 5) (N := some 57) (v := ?_) (a' := ?_) #[true, false, true, true, true, true, false, false, false, false, false, false, false] rfl rfl (any_of HT_.out (by kernel_rfl)) (fun _ _ _ h => h) (Or.inl ⟨by rfl, ?_⟩) ?_ ?_
               rotate_left
               ·intro w'
                go_simp
                with_reducible rfl
               rotate_left
               ·simp only [Act.put, List.setIfInBounds_toArray, List.set_cons_zero, List.set_cons_succ, i64_w, i32_w]
                rfl
               refine pure_ (i := 6) (N := some 58) (v := ?_) (a' := ?_) #[true, false, true, true, true, true, true, false, false, false, false, false, false] rfl rfl (any_of HT_.out (by kernel_rfl)) (fun _ _ _ h => h) (Or.inl ⟨by rfl, ?_⟩) ?_ ?_
               rotate_left
               ·intro w'
                go_simp
                with_reducible rfl
               rotate_left
               ·simp only [Act.put, List.setIfInBounds_toArray, List.set_cons_zero, List.set_cons_succ, i64_w, i32_w]
                rfl
               refine pure_ (i := 7) (N := some 59) (v := ?_) (a' := ?_) #[true, false, true, true, true, true, true, true, false, false, false, false, false] rfl rfl (any_of HT_.out (by kernel_rfl)) (fun _ _ _ h => h) (Or.inl ⟨by rfl, ?_⟩) ?_ ?_
               rotate_left
               ·intro w'
                go_simp
                with_reducible rfl
               rotate_left
               ·simp only [Act.put, List.setIfInBounds_toArray, List.set_cons_zero, List.set_cons_succ, i64_w, i32_w]
                rfl
               refine pure_ (i := 8) (N := some 60) (v := ?_) (a' := ?_) #[true, false, true, true, true, true, true, true, true, false, false, false, false] rfl rfl (any_of HT_.out (by kernel_rfl)) (fun _ _ _ h => h) (Or.inl ⟨by rfl, ?_⟩) ?_ ?_
               rotate_left
               ·intro w'
                go_simp
                with_reducible rfl
               rotate_left
               ·simp only [Act.put, List.setIfInBounds_toArray, List.set_cons_zero, List.set_cons_succ, i64_w, i32_w]
                rfl
               refine take_ (i := 1) (N := some 53) (v := ?_) (a' := ?_) #[true, true, true, true, true, true, true, true, true, false, false, false, false] rfl rfl (take_ofW HT_.out HW_.out (by kernel_rfl)) (fun _ _ _ h => h) (Or.inl ⟨by rfl, ?_⟩) hHeld ?_ ?_
               rotate_left
               ·rintro w' ⟨s0, s1, s2⟩
                go_simp
                with_reducible rfl
               rotate_left
               ·simp only [Act.put, List.setIfInBounds_toArray, List.set_cons_zero, List.set_cons_succ, i64_w, i32_w]
                rfl
               refine one_ (i := 9) (N := some 61) #[true, true, true, true, true, true, true, true, true, true, false, false, false] rfl rfl (one_of HT_.out (by kernel_rfl)) (by decide) (fun K hK => ?_)
               have hcv66 := Kd.C_string (P := Try.prog) (A := A65) (c := (c0 - (ji54).toNat)) Try.underlying22 Try.underlying5 Try.underlying9 (Kd.C_below HR140.out HB.out); (try (have hcv66s := hcv66; simp only [List.length_take, List.length_drop, Int.reduceToNat] at hcv66s; try (have hcv66m := hcv66; simp only [List.length_take, List.length_drop, Int.reduceToNat, Nat.min_eq_left, Int.toNat_le, *, -hcv66, -hcv66s] at hcv66m)))
               refine value_ (w1 := ?_) (v := ?_) (by rfl) rfl ?_ ?_
               rotate_left 2
               ·go_simp
                constructor
                ·rfl
                ·rfl
               clear hcv66
               refine hK.out _ _ ⟨(blk_cell BK139.out 0).trans rfl, (blk_cell BK139.out 1).trans rfl, (blk_cell BK139.out 2).trans rfl⟩ (fun hHeld => ?_)
               clear hK K
               refine norm_ (a' := ?_) ?_ ?_
               rotate_left
               ·show Act.put _ (some 61) _ = _
                simp only [Act.put, List.setIfInBounds_toArray, List.set_cons_zero, List.set_cons_succ, i64_w, i32_w]
                rfl
               refine pure_ (i := 10) (N := some 62) (v := ?_) (a' := ?_) #[true, true, true, true, true, true, true, true, true, true, true, false, false] rfl rfl (any_of HT_.out (by kernel_rfl)) (fun _ _ _ h => h) (Or.inl ⟨by rfl, ?_⟩) ?_ ?_
               rotate_left
               ·intro w'
                go_simp
                with_reducible rfl
               rotate_left
               ·simp only [Act.put, List.setIfInBounds_toArray, List.set_cons_zero, List.set_cons_succ, i64_w, i32_w]
                rfl
               refine pure_ (i := 11) (N := some 63) (v := ?_) (a' := ?_) #[true, true, true, true, true, true, true, true, true, true, true, true, false] rfl rfl (any_of HT_.out (by kernel_rfl)) (fun _ _ _ h => h) (Or.inl ⟨by rfl, ?_⟩) ?_ ?_
               rotate_left
               ·intro w'
                go_simp
                with_reducible rfl
               rotate_left
               ·simp only [Act.put, List.setIfInBounds_toArray, List.set_cons_zero, List.set_cons_succ, i64_w, i32_w]
                rfl
               refine last_ (i := 12) (N := none) #[true, true, true, true, true, true, true, true, true, true, true, true, true] rfl rfl (one_of HT_.out (by kernel_rfl)) (by decide) (fun K hK => ?_)
               have hs67 : w64.cell? ⟨gb139, 2, none⟩ = some (.string ((rd_T54 x4_1 (ji50)).f2)) := (blk_cell BK139.out 2).trans rfl
               have hfs67 := blk_frozen BK139.out 2
               refine skip_ (w1 := ?_) (by rfl) rfl ?_ ?_
               rotate_left
               ·go_simp
                rfl
               refine hK.out _ _ ?_
               clear hK K
               refine done_ (done_of HT_.out (by kernel_rfl)) ?_
               have n0_ : Aside0 (Kd.R k54 54 (w64.setCell ⟨gb139, 2, none⟩ (.string (((rd_T54 x4_1 (ji50)).f2) ++ (strOfNums ((l0.take ((wrap64 ((ji54) + 256)) : Int).toNat).drop ((ji54) : Int).toNat))))) w.heap.size (fun k_ => k_ ≠ gb139) (.slice (some ad138) x4_1.length co60) x4_1) := ⟨by (with_reducible repeat (first | apply Kd.R_alloc | apply Kd.R_drewN | apply Kd.R_drew)); exact Kd.R_mono (Kd.R_far (p := ⟨gb139, 2, none⟩) (Kd.R_mono HO_4.out (fun k_ hk => (⟨hk, hk⟩ : _ ∧ k_ ≠ gb139))) (fun _ hk => hk.2) (.string (((rd_T54 x4_1 (ji50)).f2) ++ (strOfNums ((l0.take ((wrap64 ((ji54) + 256)) : Int).toNat).drop ((ji54) : Int).toNat))))) (fun _ hk => hk.1)⟩
               have n1_ : Aside0 ((w64.setCell ⟨gb139, 2, none⟩ (.string (((rd_T54 x4_1 (ji50)).f2) ++ (strOfNums ((l0.take ((wrap64 ((ji54) + 256)) : Int).toNat).drop ((ji54) : Int).toNat))))).heap[gb139]? = some (.cells #[.int .i64 ((rd_T54 x4_1 (ji50)).f0), .int .i64 (wrap64 (((rd_T54 x4_1 (ji50)).f1) + 1)), .string (((rd_T54 x4_1 (ji50)).f2) ++ (strOfNums ((l0.take ((wrap64 ((ji54) + 256)) : Int).toNat).drop ((ji54) : Int).toNat)))] 54 (0, 0))) := ⟨by (with_reducible repeat first | apply kN | apply kd | apply ka); refine blk_put (cs := #[.int .i64 ((rd_T54 x4_1 (ji50)).f0), .int .i64 (wrap64 (((rd_T54 x4_1 (ji50)).f1) + 1)), .string ((rd_T54 x4_1 (ji50)).f2)]) ?_ 2 _ rfl; (with_reducible repeat first | apply kN | apply kd | apply ka); exact BK139.out⟩
               have n2_ : Aside0 (Below w.heap.size w (w64.setCell ⟨gb139, 2, none⟩ (.string (((rd_T54 x4_1 (ji50)).f2) ++ (strOfNums ((l0.take ((wrap64 ((ji54) + 256)) : Int).toNat).drop ((ji54) : Int).toNat)))))) := ⟨by repeat (first | (with_reducible first | exact HB.out | apply bA | apply bN | apply bD | refine bS ?_ GE139.out) | exact HB.out)⟩
               (try clear HO_4)
               (try clear BK139)
               (try clear HB)
               generalize (w64.setCell ⟨gb139, 2, none⟩ (.string (((rd_T54 x4_1 (ji50)).f2) ++ (strOfNums ((l0.take ((wrap64 ((ji54) + 256)) : Int).toNat).drop ((ji54) : Int).toNat))))) = w68 at n0_ n1_ n2_ ⊢
               have HO_4 := n0_
               have BK139 := n1_
               have HB := n2_
               clear n0_ n1_ n2_
               have q_ := cells3 BK139.out; have hcz69_0 := q_.c0; have hcz69_1 := q_.c1; have hcz69_2 := q_.c2; have hfz69_0 := q_.f0; have hfz69_1 := q_.f1; have hfz69_2 := q_.f2; clear q_
               have p59 : 0 ≤ ((ji50) : Int) := of_decide_eq_true (by first | (with_reducible assumption) | assumption)
               have q59 : ((ji50) : Int) < ((x4_1.length : Int) : Int) := of_decide_eq_true (by first | (with_reducible assumption) | assumption)
               obtain ⟨go59, co59, eo59, gb59, gl59, cl59, HG59⟩ := Kd.R_form HO_4.out (by omega)
               (first | cases eo59 | (injection eo59 with ea_ en_ ec_; (first | subst ea_ | (injection ea_ with ea_; subst ea_)); subst ec_; clear en_))
               have GB59 := Aside0.mk gb59
               have GG59 := Aside0.mk HG59
               clear gb59 gl59 HG59
               (first | simp only [add_plain] at hx138_0 | skip)
               (first | simp only [add_plain] at hx138_1 | skip)
               (first | simp only [add_plain] at hx138_2 | skip)
               obtain ⟨ce59, hcl59, hM59, hcc59, hfr59⟩ := Kd.R_elem HO_4.out z54 ((ji50) : Int) p59 q59
               obtain rfl := k54_openM hM59
               have hx59_0 : w68.cell? ⟨go59, ((ji50) : Int).toNat * 3, none⟩ = some (.int .i64 ((rd_T54 x4_1 (ji50)).f0)) := hcc59 0 _ rfl
               have hx59_1 : w68.cell? ⟨go59, ((ji50) : Int).toNat * 3 + 1, none⟩ = some (.int .i64 ((rd_T54 x4_1 (ji50)).f1)) := hcc59 1 _ rfl
               have hx59_2 : w68.cell? ⟨go59, ((ji50) : Int).toNat * 3 + 2, none⟩ = some (.string ((rd_T54 x4_1 (ji50)).f2)) := hcc59 2 _ rfl
               have hf59_0 : w68.frozen? ⟨go59, ((ji50) : Int).toNat * 3, none⟩ = false := hfr59 0
               have hf59_1 : w68.frozen? ⟨go59, ((ji50) : Int).toNat * 3 + 1, none⟩ = false := hfr59 1
               have hf59_2 : w68.frozen? ⟨go59, ((ji50) : Int).toNat * 3 + 2, none⟩ = false := hfr59 2
               clear hcl59 hcc59 hfr59 hM59
               replace p59 := eq_true p59
               replace q59 := eq_true q59
               have HX70 := Aside0.mk (show Kd.R k54 54 w68 w.heap.size (fun k_ => k_ ≠ gb139) (.slice (some ⟨go59, 0, none⟩) x4_1.length co60) x4_1 from (by (with_reducible repeat (first | apply Kd.R_alloc | apply Kd.R_drewN | apply Kd.R_drew)); exact HO_4.out))
               obtain ⟨ce70, hcl70, hM70, hcc70, hfr70⟩ := Kd.R_elem HX70.out z54 ((ji50) : Int) (of_decide_eq_true (by first | (with_reducible assumption) | assumption)) (by have h_ : ((ji50) : Int) < ((x4_1.length : Int) : Int) := of_decide_eq_true (by first | (with_reducible assumption) | assumption); first | exact h_ | (have e_ := (Kd.R_reads' HO_4.out).1; omega) | simpa using h_)
               obtain rfl := k54_openM hM70
               have HP70 := Kd.R_seg HX70.out ((ji50) : Int) (of_decide_eq_true (by first | (with_reducible assumption) | assumption)) (by have h_ : ((ji50) : Int) < ((x4_1.length : Int) : Int) := of_decide_eq_true (by first | (with_reducible assumption) | assumption); first | exact h_ | (have e_ := (Kd.R_reads' HO_4.out).1; omega) | simpa using h_) (seg := [.int .i64 ((rd_T54 x4_1 (ji50)).f0), .int .i64 (wrap64 (((rd_T54 x4_1 (ji50)).f1) + 1)), .string (((rd_T54 x4_1 (ji50)).f2) ++ (strOfNums ((l0.take ((wrap64 ((ji54) + 256)) : Int).toNat).drop ((ji54) : Int).toNat)))]) (j := 0) hcl70 hcc70 (show 3 ≤ 3 from by decide) (x' := (⟨(rd_T54 x4_1 (ji50)).f0, wrap64 (((rd_T54 x4_1 (ji50)).f1) + 1), ((rd_T54 x4_1 (ji50)).f2) ++ (strOfNums ((l0.take ((wrap64 ((ji54) + 256)) : Int).toNat).drop ((ji54) : Int).toNat))⟩ : S54)) (k54_mkM _ _ _ (⟨(rd_T54 x4_1 (ji50)).f0, wrap64 (((rd_T54 x4_1 (ji50)).f1) + 1), ((rd_T54 x4_1 (ji50)).f2) ++ (strOfNums ((l0.take ((wrap64 ((ji54) + 256)) : Int).toNat).drop ((ji54) : Int).toNat))⟩ : S54) ) (fun _ hk => hk)
               have hx70_0 := hcc70 0 _ rfl
               (try simp only [show (k54).sz = 3 from rfl, Nat.mul_one, Nat.add_zero] at hx70_0)
               have hf70_0 := hfr70 0
               (try simp only [show (k54).sz = 3 from rfl, Nat.mul_one, Nat.add_zero] at hf70_0)
               have hx70_1 := hcc70 1 _ rfl
               (try simp only [show (k54).sz = 3 from rfl, Nat.mul_one, Nat.add_zero] at hx70_1)
               have hf70_1 := hfr70 1
               (try simp only [show (k54).sz = 3 from rfl, Nat.mul_one, Nat.add_zero] at hf70_1)
               have hx70_2 := hcc70 2 _ rfl
               (try simp only [show (k54).sz = 3 from rfl, Nat.mul_one, Nat.add_zero] at hx70_2)
               have hf70_2 := hfr70 2
               (try simp only [show (k54).sz = 3 from rfl, Nat.mul_one, Nat.add_zero] at hf70_2)
               clear hcl70 hcc70 hfr70 hM70
               try go_wp2_with (first | ((with_reducible refine gate_store (t := 54) (p := 69) rfl ?_); refine store_event (t := 54) (p := 69) (v := ?vo_w71) (w1 := (((w68.setCell ⟨go59, ((ji50) : Int).toNat * 3, none⟩ (.int .i64 ((rd_T54 x4_1 (ji50)).f0))).setCell ⟨go59, ((ji50) : Int).toNat * 3 + 1, none⟩ (.int .i64 (wrap64 (((rd_T54 x4_1 (ji50)).f1) + 1)))).setCell ⟨go59, ((ji50) : Int).toNat * 3 + 2, none⟩ (.string (((rd_T54 x4_1 (ji50)).f2) ++ (strOfNums ((l0.take ((wrap64 ((ji54) + 256)) : Int).toNat).drop ((ji54) : Int).toNat)))))) ?hg ?ho ?hn ?hr ?_; (case ho => rfl); (case hg => rfl); (case hn => rfl); (case hr => first | (go_simp; done) | (go_simp; rfl)); intro w71 hw; have hg : w68.grownBy w71 (some go59) := (by rw [hw]; exact HP70.2); have hp_ : Kd.R k54 54 w71 w.heap.size (fun k_ => k_ ≠ gb139) (.slice (some ⟨go59, 0, none⟩) x4_1.length co60) y141 := (by rw [hw, Ny141.out]; exact HP70.1); clear HP70; have n0_ := Aside0.mk (hp_); have n1_ := Aside0.mk (blk_grown (g := gb139) (o := .cells #[.int .i64 ((rd_T54 x4_1 (ji50)).f0), .int .i64 (wrap64 (((rd_T54 x4_1 (ji50)).f1) + 1)), .string (((rd_T54 x4_1 (ji50)).f2) ++ (strOfNums ((l0.take ((wrap64 ((ji54) + 256)) : Int).toNat).drop ((ji54) : Int).toNat)))] 54 (0, 0)) (by (with_reducible repeat first | apply kN | apply kd | apply ka); exact BK139.out) hg (Kd.R_away HO_4.out (fun _ hk => hk))); have n2_ := Aside0.mk ((by rw [hw]; exact below_set (below_set (below_set (HB.out) GB59.out) GB59.out) GB59.out : Below w.heap.size w w71)); clear HO_4; clear BK139; clear HB; have HO_4 := n0_; have BK139 := n1_; have HB := n2_; clear n0_ n1_ n2_; clear hg hw hp_))
               go_roundg kj5
               case measure => have := HK1.out; have := HJ5.out; omega
               case rel => exact ⟨(y141), (wrap64 (x5_1 + 1)), (by first | rfl | (simp; done) | (simp [*]; done)), H', ⟨by have := HK1.out; have := HJ5.out; omega⟩, ⟨by (with_reducible repeat (first | apply Kd.R_alloc | apply Kd.R_drewN | apply Kd.R_drew)); exact Kd.R_mono HO_4.out (fun _ hk => trivial)⟩, ⟨by repeat (first | (with_reducible first | exact HB.out | apply bA | apply bN | apply bD | refine bS ?_ GE139.out) | exact HB.out)⟩⟩
              ·rw [if_neg c58] at H
               exact absurd H (by simp)
             ·rw [if_neg c57] at H
              exact absurd H (by simp)
            ·rw [if_neg c56] at H
             exact absurd H (by simp)
           ·rw [if_neg c55] at H
            exact absurd H (by simp)
          ·rw [if_neg c53] at H
           have c53b0 : (t128 == 1) = false := beq_eq_false_iff_ne.mpr c53
           have c53b1 : (t128 != 1) = true := bne_iff_ne.mpr c53
           obtain ⟨y142, hy142⟩ : ∃ y_ : List (S54), y_ = (x4_1.set ((ji50) : Int).toNat (⟨(rd_T54 x4_1 (ji50)).f0, wrap64 (((rd_T54 x4_1 (ji50)).f1) + 1), (rd_T54 x4_1 (ji50)).f2⟩ : S54)) := ⟨_, rfl⟩
           replace H : (leveeref32_Rows.l0 kj5 l0 y142 (wrap64 (x5_1 + 1))) = some (r1, r2) := by first | (rw [hy142]; with_reducible exact H) | (have H2_ := (Option.bind_some _ _).symm.trans H; rw [hy142]; with_reducible exact H2_) | (have H2_ := (Option.bind_some _ _).symm.trans H; with_reducible exact H2_) | with_reducible exact H | (rw [hy142]; exact H) | exact H
           have Ny142 := Aside0.mk hy142
           clear hy142
           have H' := Aside0.mk H
           clear H
           obtain ⟨Ao73, co73, eo73⟩ := Kd.R_slice HO_4.out
           subst eo73
           have p138 : 0 ≤ ((ji50) : Int) := of_decide_eq_true (by first | (with_reducible assumption) | assumption)
           have q138 : (ji50) < (x4_1.length : Int) := of_decide_eq_true (by first | (with_reducible assumption) | assumption)
           obtain ⟨ad138, e138, hx138_0, hx138_1, hx138_2⟩ := at_T54 (Kd.R_reads' HO_4.out).2.2 (ji50) p138 q138
           cases e138
           replace p138 := eq_true p138
           replace q138 := eq_true q138
           go_wp2_with (first | ((with_reducible refine gate_dst (N := 7) rfl ?_); (try (refine gate_guard (by rfl) ?_; dsimp only)); refine box_event ?hg (N := 7) ?hd (cs := #[.int .i64 0, .int .i64 0, .string (⟨#[]⟩ : ByteArray)]) (t := 54) ?hr ?_; (case hd => rfl); (case hg => rfl); (case hr => first | (go_simp; done) | (go_simp; rfl)); intro gb139 hg w74 hbox hb; have n0_ := Aside0.mk (Kd.R_below (Kd.R_elderB (by (with_reducible repeat (first | apply Kd.R_alloc | apply Kd.R_drewN | apply Kd.R_drew)); exact HO_4.out) gb139 (Nat.le_of_eq hg.symm)) hb); have n1_ := Aside0.mk (below_step (by repeat (first | (with_reducible first | exact HB.out | apply bA | apply bN | apply bD) | exact HB.out)) hb); have n2_ := Aside0.mk (hbox); have n3_ := Aside0.mk ((by rw [hg]; exact (below_size (by repeat (first | (with_reducible first | exact HB.out | apply bA | apply bN | apply bD) | exact HB.out))) : w.heap.size ≤ gb139)); have n4_ := Aside0.mk ((by rw [hg]; exact (below_size (by repeat (first | (with_reducible first | exact HB.out | apply bA | apply bN | apply bD) | exact HB.out))) : w.heap.size ≤ gb139)); clear HO_4; clear HB; have HO_4 := n0_; have HB := n1_; have BK139 := n2_; have GW139 := n3_; have GE139 := n4_; clear n0_ n1_ n2_ n3_ n4_; clear hb hbox hg; have q_ := cells3 BK139.out; have hcz75_0 := q_.c0; have hcz75_1 := q_.c1; have hcz75_2 := q_.c2; have hfz75_0 := q_.f0; have hfz75_1 := q_.f1; have hfz75_2 := q_.f2; clear q_) | ((with_reducible refine gate_store (t := 54) (p := 7) rfl ?_); refine store_event (t := 54) (p := 7) (v := ?vo_w76) (w1 := (((w74.setCell ⟨gb139, 0, none⟩ (.int .i64 ((rd_T54 x4_1 (ji50)).f0))).setCell ⟨gb139, 1, none⟩ (.int .i64 ((rd_T54 x4_1 (ji50)).f1))).setCell ⟨gb139, 2, none⟩ (.string ((rd_T54 x4_1 (ji50)).f2)))) ?hg ?ho ?hn ?hr ?_; (case ho => rfl); (case hg => rfl); (case hn => rfl); (case hr => first | (go_simp; done) | (go_simp; rfl)); intro w76 hw; have n0_ : Aside0 (Kd.R k54 54 w76 w.heap.size (fun k_ => k_ ≠ gb139) (.slice (some ad138) x4_1.length co73) x4_1) := ⟨(by rw [hw]; exact (by (with_reducible repeat (first | apply Kd.R_alloc | apply Kd.R_drewN | apply Kd.R_drew)); exact Kd.R_mono (Kd.R_far (p := ⟨gb139, 2, none⟩) (Kd.R_far (p := ⟨gb139, 1, none⟩) (Kd.R_far (p := ⟨gb139, 0, none⟩) (Kd.R_mono HO_4.out (fun k_ hk => (⟨hk, hk.2⟩ : _ ∧ k_ ≠ gb139))) (fun _ hk => hk.2) (.int .i64 ((rd_T54 x4_1 (ji50)).f0))) (fun _ hk => hk.2) (.int .i64 ((rd_T54 x4_1 (ji50)).f1))) (fun _ hk => hk.2) (.string ((rd_T54 x4_1 (ji50)).f2))) (fun _ hk => hk.1.2)))⟩; have n1_ : Aside0 (w76.heap[gb139]? = some (.cells #[.int .i64 ((rd_T54 x4_1 (ji50)).f0), .int .i64 ((rd_T54 x4_1 (ji50)).f1), .string ((rd_T54 x4_1 (ji50)).f2)] 54 (0, 0))) := ⟨(by rw [hw]; exact (by (with_reducible repeat first | apply kN | apply kd | apply ka); refine blk_put (cs := #[.int .i64 ((rd_T54 x4_1 (ji50)).f0), .int .i64 ((rd_T54 x4_1 (ji50)).f1), .string (⟨#[]⟩ : ByteArray)]) ?_ 2 _ rfl; (with_reducible repeat first | apply kN | apply kd | apply ka); refine blk_put (cs := #[.int .i64 ((rd_T54 x4_1 (ji50)).f0), .int .i64 0, .string (⟨#[]⟩ : ByteArray)]) ?_ 1 _ rfl; (with_reducible repeat first | apply kN | apply kd | apply ka); refine blk_put (cs := #[.int .i64 0, .int .i64 0, .string (⟨#[]⟩ : ByteArray)]) ?_ 0 _ rfl; (with_reducible repeat first | apply kN | apply kd | apply ka); exact BK139.out))⟩; have n2_ : Aside0 (Below w.heap.size w w76) := ⟨(by rw [hw]; exact (by repeat (first | (with_reducible first | exact HB.out | apply bA | apply bN | apply bD | refine bS ?_ GE139.out) | exact HB.out)))⟩; clear hw; clear HO_4; clear BK139; clear HB; have HO_4 := n0_; have BK139 := n1_; have HB := n2_; clear n0_ n1_ n2_; have q_ := cells3 BK139.out; have hcz77_0 := q_.c0; have hcz77_1 := q_.c1; have hcz77_2 := q_.c2; have hfz77_0 := q_.f0; have hfz77_1 := q_.f1; have hfz77_2 := q_.f2; clear q_) | ((with_reducible refine gate_store (t := 3) (p := 49) rfl ?_); refine store_event (t := 3) (p := 49) (v := ?vo_w78) (w1 := (w76.setCell ⟨gb139, 1, none⟩ (.int .i64 (wrap64 (((rd_T54 x4_1 (ji50)).f1) + 1))))) ?hg ?ho ?hn ?hr ?_; (case ho => rfl); (case hg => rfl); (case hn => rfl); (case hr => first | (go_simp; done) | (go_simp; rfl)); intro w78 hw; have n0_ : Aside0 (Kd.R k54 54 w78 w.heap.size (fun k_ => k_ ≠ gb139) (.slice (some ad138) x4_1.length co73) x4_1) := ⟨(by rw [hw]; exact (by (with_reducible repeat (first | apply Kd.R_alloc | apply Kd.R_drewN | apply Kd.R_drew)); exact Kd.R_mono (Kd.R_far (p := ⟨gb139, 1, none⟩) (Kd.R_mono HO_4.out (fun k_ hk => (⟨hk, hk⟩ : _ ∧ k_ ≠ gb139))) (fun _ hk => hk.2) (.int .i64 (wrap64 (((rd_T54 x4_1 (ji50)).f1) + 1)))) (fun _ hk => hk.1)))⟩; have n1_ : Aside0 (w78.heap[gb139]? = some (.cells #[.int .i64 ((rd_T54 x4_1 (ji50)).f0), .int .i64 (wrap64 (((rd_T54 x4_1 (ji50)).f1) + 1)), .string ((rd_T54 x4_1 (ji50)).f2)] 54 (0, 0))) := ⟨(by rw [hw]; exact (by (with_reducible repeat first | apply kN | apply kd | apply ka); refine blk_put (cs := #[.int .i64 ((rd_T54 x4_1 (ji50)).f0), .int .i64 ((rd_T54 x4_1 (ji50)).f1), .string ((rd_T54 x4_1 (ji50)).f2)]) ?_ 1 _ rfl; (with_reducible repeat first | apply kN | apply kd | apply ka); exact BK139.out))⟩; have n2_ : Aside0 (Below w.heap.size w w78) := ⟨(by rw [hw]; exact (by repeat (first | (with_reducible first | exact HB.out | apply bA | apply bN | apply bD | refine bS ?_ GE139.out) | exact HB.out)))⟩; clear hw; clear HO_4; clear BK139; clear HB; have HO_4 := n0_; have BK139 := n1_; have HB := n2_; clear n0_ n1_ n2_; have q_ := cells3 BK139.out; have hcz79_0 := q_.c0; have hcz79_1 := q_.c1; have hcz79_2 := q_.c2; have hfz79_0 := q_.f0; have hfz79_1 := q_.f1; have hfz79_2 := q_.f2; clear q_; have p72 : 0 ≤ ((ji50) : Int) := of_decide_eq_true (by first | (with_reducible assumption) | assumption); have q72 : ((ji50) : Int) < ((x4_1.length : Int) : Int) := of_decide_eq_true (by first | (with_reducible assumption) | assumption); obtain ⟨go72, co72, eo72, gb72, gl72, cl72, HG72⟩ := Kd.R_form HO_4.out (by omega); (first | cases eo72 | (injection eo72 with ea_ en_ ec_; (first | subst ea_ | (injection ea_ with ea_; subst ea_)); subst ec_; clear en_)); have GB72 := Aside0.mk gb72; have GG72 := Aside0.mk HG72; clear gb72 gl72 HG72; (first | simp only [add_plain] at hx138_0 | skip); (first | simp only [add_plain] at hx138_1 | skip); (first | simp only [add_plain] at hx138_2 | skip); obtain ⟨ce72, hcl72, hM72, hcc72, hfr72⟩ := Kd.R_elem HO_4.out z54 ((ji50) : Int) p72 q72; obtain rfl := k54_openM hM72; have hx72_0 : w78.cell? ⟨go72, ((ji50) : Int).toNat * 3, none⟩ = some (.int .i64 ((rd_T54 x4_1 (ji50)).f0)) := hcc72 0 _ rfl; have hx72_1 : w78.cell? ⟨go72, ((ji50) : Int).toNat * 3 + 1, none⟩ = some (.int .i64 ((rd_T54 x4_1 (ji50)).f1)) := hcc72 1 _ rfl; have hx72_2 : w78.cell? ⟨go72, ((ji50) : Int).toNat * 3 + 2, none⟩ = some (.string ((rd_T54 x4_1 (ji50)).f2)) := hcc72 2 _ rfl; have hf72_0 : w78.frozen? ⟨go72, ((ji50) : Int).toNat * 3, none⟩ = false := hfr72 0; have hf72_1 : w78.frozen? ⟨go72, ((ji50) : Int).toNat * 3 + 1, none⟩ = false := hfr72 1; have hf72_2 : w78.frozen? ⟨go72, ((ji50) : Int).toNat * 3 + 2, none⟩ = false := hfr72 2; clear hcl72 hcc72 hfr72 hM72; replace p72 := eq_true p72; replace q72 := eq_true q72; have HX80 := Aside0.mk (show Kd.R k54 54 w78 w.heap.size (fun k_ => k_ ≠ gb139) (.slice (some ⟨go72, 0, none⟩) x4_1.length co73) x4_1 from (by (with_reducible repeat (first | apply Kd.R_alloc | apply Kd.R_drewN | apply Kd.R_drew)); exact HO_4.out)); obtain ⟨ce80, hcl80, hM80, hcc80, hfr80⟩ := Kd.R_elem HX80.out z54 ((ji50) : Int) (of_decide_eq_true (by first | (with_reducible assumption) | assumption)) (by have h_ : ((ji50) : Int) < ((x4_1.length : Int) : Int) := of_decide_eq_true (by first | (with_reducible assumption) | assumption); first | exact h_ | (have e_ := (Kd.R_reads' HO_4.out).1; omega) | simpa using h_); obtain rfl := k54_openM hM80; have HP80 := Kd.R_seg HX80.out ((ji50) : Int) (of_decide_eq_true (by first | (with_reducible assumption) | assumption)) (by have h_ : ((ji50) : Int) < ((x4_1.length : Int) : Int) := of_decide_eq_true (by first | (with_reducible assumption) | assumption); first | exact h_ | (have e_ := (Kd.R_reads' HO_4.out).1; omega) | simpa using h_) (seg := [.int .i64 ((rd_T54 x4_1 (ji50)).f0), .int .i64 (wrap64 (((rd_T54 x4_1 (ji50)).f1) + 1)), .string ((rd_T54 x4_1 (ji50)).f2)]) (j := 0) hcl80 hcc80 (show 3 ≤ 3 from by decide) (x' := (⟨(rd_T54 x4_1 (ji50)).f0, wrap64 (((rd_T54 x4_1 (ji50)).f1) + 1), (rd_T54 x4_1 (ji50)).f2⟩ : S54)) (k54_mkM _ _ _ (⟨(rd_T54 x4_1 (ji50)).f0, wrap64 (((rd_T54 x4_1 (ji50)).f1) + 1), (rd_T54 x4_1 (ji50)).f2⟩ : S54) ) (fun _ hk => hk); have hx80_0 := hcc80 0 _ rfl; (try simp only [show (k54).sz = 3 from rfl, Nat.mul_one, Nat.add_zero] at hx80_0); have hf80_0 := hfr80 0; (try simp only [show (k54).sz = 3 from rfl, Nat.mul_one, Nat.add_zero] at hf80_0); have hx80_1 := hcc80 1 _ rfl; (try simp only [show (k54).sz = 3 from rfl, Nat.mul_one, Nat.add_zero] at hx80_1); have hf80_1 := hfr80 1; (try simp only [show (k54).sz = 3 from rfl, Nat.mul_one, Nat.add_zero] at hf80_1); have hx80_2 := hcc80 2 _ rfl; (try simp only [show (k54).sz = 3 from rfl, Nat.mul_one, Nat.add_zero] at hx80_2); have hf80_2 := hfr80 2; (try simp only [show (k54).sz = 3 from rfl, Nat.mul_one, Nat.add_zero] at hf80_2); clear hcl80 hcc80 hfr80 hM80) | ((with_reducible refine gate_store (t := 54) (p := 69) rfl ?_); refine store_event (t := 54) (p := 69) (v := ?vo_w81) (w1 := (((w78.setCell ⟨go72, ((ji50) : Int).toNat * 3, none⟩ (.int .i64 ((rd_T54 x4_1 (ji50)).f0))).setCell ⟨go72, ((ji50) : Int).toNat * 3 + 1, none⟩ (.int .i64 (wrap64 (((rd_T54 x4_1 (ji50)).f1) + 1)))).setCell ⟨go72, ((ji50) : Int).toNat * 3 + 2, none⟩ (.string ((rd_T54 x4_1 (ji50)).f2)))) ?hg ?ho ?hn ?hr ?_; (case ho => rfl); (case hg => rfl); (case hn => rfl); (case hr => first | (go_simp; done) | (go_simp; rfl)); intro w81 hw; have hg : w78.grownBy w81 (some go72) := (by rw [hw]; exact HP80.2); have hp_ : Kd.R k54 54 w81 w.heap.size (fun k_ => k_ ≠ gb139) (.slice (some ⟨go72, 0, none⟩) x4_1.length co73) y142 := (by rw [hw, Ny142.out]; exact HP80.1); clear HP80; have n0_ := Aside0.mk (hp_); have n1_ := Aside0.mk (blk_grown (g := gb139) (o := .cells #[.int .i64 ((rd_T54 x4_1 (ji50)).f0), .int .i64 (wrap64 (((rd_T54 x4_1 (ji50)).f1) + 1)), .string ((rd_T54 x4_1 (ji50)).f2)] 54 (0, 0)) (by (with_reducible repeat first | apply kN | apply kd | apply ka); exact BK139.out) hg (Kd.R_away HO_4.out (fun _ hk => hk))); have n2_ := Aside0.mk ((by rw [hw]; exact below_set (below_set (below_set (HB.out) GB72.out) GB72.out) GB72.out : Below w.heap.size w w81)); clear HO_4; clear BK139; clear HB; have HO_4 := n0_; have BK139 := n1_; have HB := n2_; clear n0_ n1_ n2_; clear hg hw hp_))
           go_roundg kj5
           case measure => have := HK1.out; have := HJ5.out; omega
           case rel => exact ⟨(y142), (wrap64 (x5_1 + 1)), (by first | rfl | (simp; done) | (simp [*]; done)), H', ⟨by have := HK1.out; have := HJ5.out; omega⟩, ⟨by (with_reducible repeat (first | apply Kd.R_alloc | apply Kd.R_drewN | apply Kd.R_drew)); exact Kd.R_mono HO_4.out (fun _ hk => trivial)⟩, ⟨by repeat (first | (with_reducible first | exact HB.out | apply bA | apply bN | apply bD | refine bS ?_ GE139.out) | exact HB.out)⟩⟩
         ·rw [if_neg c52] at H
          exact absurd H (by simp)
        ·rw [if_neg c51] at H
         exact absurd H (by simp)
    ·rw [if_neg c4] at H
     have c4b0 : decide (x5_1 < (wrap64 ((l0.length : Int) / 256))) = false := decide_eq_false c4
     clear c4
     simp only [Option.some.injEq, Prod.mk.injEq] at H
     obtain ⟨rfl, rfl⟩ := H
     go_wp2
     go_ret2
     exact ⟨_, by first | rfl | (simp [errW_none, errW_some] <;> rfl) | (simp [*, errW_none, errW_some] <;> rfl), by (with_reducible repeat (first | apply Kd.R_alloc | apply Kd.R_drewN | apply Kd.R_drew)); exact HO_4.out, by repeat (first | (with_reducible first | exact HB.out | apply bA | apply bN | apply bD) | exact HB.out)⟩
 ·replace c3 := Bool.eq_false_iff.mpr c3
  subst c3
  have H1 : (some (([] : List (S54)), 1)) = some (r1, r2) := by rw [if_neg (show ¬ (false = true) by decide)] at H; exact H
  clear H
  have H := H1
  clear H1
  simp only [Option.some.injEq, Prod.mk.injEq] at H
  obtain ⟨rfl, rfl⟩ := H
  go_enter Try.func10, Try.ntmps10
  go_wp2_with (first | ((with_reducible refine gate_callee (f := 26) rfl ?_); refine goesL_ (some 9) rfl rfl Try.func26 (by kernel_rfl) rfl #[.slice A0 l0.length c0] rfl (by (try simp only [List.map_toArray, List.map_cons, List.map_nil]); first | done | rfl | (simp only [List.length_drop, List.length_take]; rfl)) ?_; (with_reducible refine (leveeref32_right.calls _ _ l0 false _ ?side1 ?side2 A2.out).mono ?_); (case side1 => repeat (first | exact HR0.out | (with_reducible refine Kd.C_alloc ?_ _) | (with_reducible refine Kd.C_drewN ?_ _) | (with_reducible refine Kd.C_drew ?_))); (case side2 => exact HC0.out); rintro e w' ⟨rfl, ⟨nd, rfl⟩⟩; refine ⟨_, rfl, ?_⟩))
  go_ret2
  exact ⟨_, by first | rfl | (simp [errW_none, errW_some] <;> rfl) | (simp [*, errW_none, errW_some] <;> rfl), by first | exact Kd.R_nil _ _ _ _ _ | exact Kd.N_nil _ _ _ _ _ | exact Kd.V_nil _ _ _ _ _ | exact Kd.Q_nil _ _ _ _ _ | exact Kd.S_nil _ _ _ _ _, by repeat (first | (with_reducible first | exact HB.out | apply bA | apply bN | apply bD) | exact HB.out)⟩

end Go.Proofs.Ytnlneiiccoakjaa.P
