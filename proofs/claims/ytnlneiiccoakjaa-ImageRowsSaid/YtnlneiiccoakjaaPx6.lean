-- PRINTED by print.py (a twelfth state) out of the translation. Not trusted: Lean checks it.
import Derived.Test.YtnlneiiccoakjaaPx0
import Derived.Test.YtnlneiiccoakjaaPx2
import Derived.Test.YtnlneiiccoakjaaPx5
import Derived.Test.YtnlneiiccoakjaaHand
import Derived.Test.YtnlneiiccoakjaaHandImgRef
import Derived.Test.YtnlneiiccoakjaaCells
namespace Go.Proofs.Ytnlneiiccoakjaa.P
open Go.RowKit Go.Proofs.YtnlneiiccoakjaaW.PrintWords Go.Proofs.YtnlneiiccoakjaaW.PrintLast Go.Proofs.YtnlneiiccoakjaaW.PrintMore
attribute [local go_sem] max2_int min2_int max_two min_two max_three min_three max_four min_four   -- for this text's walks alone
set_option linter.unusedVariables false
set_option linter.unusedSimpArgs false

/-! ### leveeref32_Blocks: function 16 -/
mutual
def leveeref32_Blocks.l0 : Nat → List (S54) → List Int → Int → Option (List Int × Int)
 | 0, _, _, _ => none
 | k + 1, x0, x4, x5 => if x5 < (x0.length : Int) then (if 0 ≤ x5 then (if ((rd_T54 x0 x5).f1) < 1 then (leveeref32_Blocks.j1 k x0 x4 x5 true ((rd_T54 x0 x5).f0) ((rd_T54 x0 x5).f1) ((rd_T54 x0 x5).f2)) else (if ((rd_T54 x0 x5).f1) > (wrap64 (4096 - (wrap64 ((x4.length : Int) / 256)))) then (leveeref32_Blocks.j1 k x0 x4 x5 true ((rd_T54 x0 x5).f0) ((rd_T54 x0 x5).f1) ((rd_T54 x0 x5).f2)) else (if ((rd_T54 x0 x5).f0) = 1 then (if (((rd_T54 x0 x5).f2).size : Int) = (wrap64 (256 * ((rd_T54 x0 x5).f1))) then (if ((rd_T54 x0 x5).f0) = 2 then (leveeref32_Blocks.j1 k x0 x4 x5 ((x4.length : Int) == 0) ((rd_T54 x0 x5).f0) ((rd_T54 x0 x5).f1) ((rd_T54 x0 x5).f2)) else (leveeref32_Blocks.j1 k x0 x4 x5 false ((rd_T54 x0 x5).f0) ((rd_T54 x0 x5).f1) ((rd_T54 x0 x5).f2))) else (leveeref32_Blocks.j1 k x0 x4 x5 true ((rd_T54 x0 x5).f0) ((rd_T54 x0 x5).f1) ((rd_T54 x0 x5).f2))) else (if ((rd_T54 x0 x5).f0) = 2 then (leveeref32_Blocks.j1 k x0 x4 x5 ((x4.length : Int) == 0) ((rd_T54 x0 x5).f0) ((rd_T54 x0 x5).f1) ((rd_T54 x0 x5).f2)) else (leveeref32_Blocks.j1 k x0 x4 x5 false ((rd_T54 x0 x5).f0) ((rd_T54 x0 x5).f1) ((rd_T54 x0 x5).f2)))))) else (none)) else ((leveeref32_Rows.f k x4).bind fun bt172 => (if bt172.2 = 0 then ((leveeref32_SameRows.f k x0 bt172.1).bind fun t176 => (if t176 = true then (some (x4, 0)) else (some (([] : List Int), 1)))) else (some (([] : List Int), 1))))
def leveeref32_Blocks.j1 : Nat → List (S54) → List Int → Int → Bool → Int → Int → ByteArray → Option (List Int × Int)
 | 0, _, _, _, _, _, _, _ => none
 | k + 1, x0, x4, x5, x56, x153000, x153001, x153002 => if x56 = true then (some (([] : List Int), 1)) else (if x153000 = 1 then (if x4.length + x153002.size < 140737488355328 then (leveeref32_Blocks.l0 k x0 (x4 ++ bytesOf x153002) (wrap64 (x5 + 1))) else (none)) else (leveeref32_Blocks.l1 k x0 x4 x5 0 x153000 x153001 x153002))
def leveeref32_Blocks.l1 : Nat → List (S54) → List Int → Int → Int → Int → Int → ByteArray → Option (List Int × Int)
 | 0, _, _, _, _, _, _, _ => none
 | k + 1, x0, x4, x5, x7, x153000, x153001, x153002 => if x7 < x153001 then (if 256 ≤ 281474976710656 then ((some (List.replicate 256 0 : List Int)).bind fun y156 => (if x153000 = 2 then (if 0 ≤ (wrap64 ((x4.length : Int) - 256)) then (if (wrap64 ((x4.length : Int) - 256)) ≤ (x4.length : Int) then ((leveeref01_Lent.f (x4.drop ((wrap64 ((x4.length : Int) - 256)) : Int).toNat)).bind fun t163 => (if x4.length + t163.length < 140737488355328 then (leveeref32_Blocks.l1 k x0 (x4 ++ t163) x5 (wrap64 (x7 + 1)) x153000 x153001 x153002) else (none))) else (none)) else (none)) else (if x4.length + y156.length < 140737488355328 then (leveeref32_Blocks.l1 k x0 (x4 ++ y156) x5 (wrap64 (x7 + 1)) x153000 x153001 x153002) else (none)))) else (none)) else (leveeref32_Blocks.l0 k x0 x4 (wrap64 (x5 + 1)))
end
def leveeref32_Blocks.f (k : Nat) (l0 : List (S54)) : Option (List Int × Int) := leveeref32_Blocks.l0 k l0 ([] : List Int) 0
set_option maxHeartbeats 8000000 in
set_option maxRecDepth 100000 in
theorem leveeref32_Blocks.calls (k : Nat) (A0 : Option Addr) (c0 : Nat) (l0 : List (S54)) (r1 : List Int) (r2 : Int) (w : World) (hr0 : Kd.C k54 w A0 l0.length l0) (hc0 : l0.length ≤ c0) (h : leveeref32_Blocks.f k l0 = some (r1, r2)) :
  Calls Try.prog 16 #[.slice A0 l0.length c0] w fun e w' => ∃ v0_ : Value, e = .returned (.tuple #[v0_, .int .i64 r2]) ∧ Kd.R (Kd.int .u8) 5 w' w.heap.size (fun _ => True) v0_ r1 ∧ Below w.heap.size w w' := by
 have hu54 := Try.underlying54
 have HR0 := Aside0.mk hr0
 have HC0 := Aside0.mk hc0
 clear hr0 hc0
 have HB := Aside0.mk (Below.refl w.heap.size w)
 have H : (leveeref32_Blocks.l0 k l0 ([] : List Int) 0) = some (r1, r2) := h
 clear h
 have H' := Aside0.mk H
 clear H
 go_enter Try.func16, Try.ntmps16
 go_wp2
 go_loopg [4, 5] k (fun kq v4 v5 w' => ∃ (x4_1 : List Int) (x5_1 : Int), v5 = .int .i64 x5_1 ∧ Aside0 (leveeref32_Blocks.l0 kq l0 x4_1 x5_1 = some (r1, r2)) ∧ Aside0 (kq ≤ k) ∧ Aside0 (Kd.R (Kd.int .u8) 5 w' w.heap.size (fun _ => True) v4 x4_1) ∧ Aside0 (Below w.heap.size w w'))
 case atStart => exact ⟨(([] : List Int)), (0), (by first | rfl | (simp; done) | (simp [*]; done)), H', ⟨Nat.le_refl _⟩, ⟨by first | exact Kd.R_nil _ _ _ _ _ | exact Kd.N_nil _ _ _ _ _ | exact Kd.V_nil _ _ _ _ _ | exact TQ.Q_nil _ _ _ _ _ | exact Kd.S_nil _ _ _ _ _⟩, ⟨by repeat (first | (with_reducible first | exact HB.out | apply bA | apply bN | apply bD) | exact HB.out)⟩⟩
 case round =>
  clear H'
  try clear c1
  obtain ⟨x4_1, x5_1, rfl, HA, HK1, HO_4, HB⟩ := hrel
  cases gk with
  | zero => exact absurd HA.out (by intro h0_; cases h0_)
  | succ k1 =>
   have H := HA.out
   clear HA
   simp only [leveeref32_Blocks.l0] at H
   by_cases c2 : x5_1 < (l0.length : Int)
   ·rw [if_pos c2] at H
    have c2b0 : decide (x5_1 < (l0.length : Int)) = true := decide_eq_true c2
    clear c2
    by_cases c3 : 0 ≤ x5_1
    ·rw [if_pos c3] at H
     have c3b0 : decide (0 ≤ x5_1) = true := decide_eq_true c3
     clear c3
     have HC4 := Aside0.mk H
     clear H
     have p151 : 0 ≤ (x5_1 : Int) := of_decide_eq_true (by first | (with_reducible assumption) | assumption)
     have q151 : x5_1 < (l0.length : Int) := of_decide_eq_true (by first | (with_reducible assumption) | assumption)
     obtain ⟨ad151, e151, hx151_0, hx151_1, hx151_2⟩ := at_T54 HR0.out x5_1 p151 q151
     cases e151
     replace hx151_0 := (HB.out.cell (World.block_lt_of_cell? w _ hx151_0)).trans hx151_0
     replace hx151_1 := (HB.out.cell (World.block_lt_of_cell? w _ hx151_1)).trans hx151_1
     replace hx151_2 := (HB.out.cell (World.block_lt_of_cell? w _ hx151_2)).trans hx151_2
     replace p151 := eq_true p151
     replace q151 := eq_true q151
     go_upto_region 6 with (first | ((with_reducible refine gate_dst (N := 6) rfl ?_); (try (refine gate_guard (by rfl) ?_; dsimp only)); refine box_event ?hg (N := 6) ?hd (cs := #[.int .i64 0, .int .i64 0, .string (⟨#[]⟩ : ByteArray)]) (t := 54) ?hr ?_; (case hd => rfl); (case hg => rfl); (case hr => first | (go_simp; done) | (go_simp; rfl)); intro gb152 hg w5 hbox hb; have n0_ := Aside0.mk (Kd.R_below (by (with_reducible repeat (first | apply Kd.R_alloc | apply Kd.R_drewN | apply Kd.R_drew)); exact HO_4.out) hb); have n1_ := Aside0.mk (below_step (by repeat (first | (with_reducible first | exact HB.out | apply bA | apply bN | apply bD) | exact HB.out)) hb); have n2_ := Aside0.mk (hbox); have n3_ := Aside0.mk ((by rw [hg]; exact (below_size (by repeat (first | (with_reducible first | exact HB.out | apply bA | apply bN | apply bD) | exact HB.out))) : w.heap.size ≤ gb152)); have n4_ := Aside0.mk ((by rw [hg]; exact (below_size (by repeat (first | (with_reducible first | exact HB.out | apply bA | apply bN | apply bD) | exact HB.out))) : w.heap.size ≤ gb152)); clear HO_4; clear HB; have HO_4 := n0_; have HB := n1_; have BK152 := n2_; have GW152 := n3_; have GE152 := n4_; clear n0_ n1_ n2_ n3_ n4_; clear hb hbox hg; have q_ := cells3 BK152.out; have hcz6_0 := q_.c0; have hcz6_1 := q_.c1; have hcz6_2 := q_.c2; have hfz6_0 := q_.f0; have hfz6_1 := q_.f1; have hfz6_2 := q_.f2; clear q_))
     (try simp only [Act.put, List.setIfInBounds_toArray, List.set_cons_zero, List.set_cons_succ])
     go_cut [56] (fun v56 wc => ∃ (kq : Nat) (x56_3 : Bool), v56 = .bool x56_3 ∧ Aside0 (leveeref32_Blocks.j1 kq l0 x4_1 x5_1 x56_3 ((rd_T54 l0 x5_1).f0) ((rd_T54 l0 x5_1).f1) ((rd_T54 l0 x5_1).f2) = some (r1, r2)) ∧ Aside0 (kq ≤ k1) ∧ Aside0 (Kd.R (Kd.int .u8) 5 wc w.heap.size (fun _ => True) u4 x4_1) ∧ Aside0 (wc.heap[gb152]? = some (.cells #[.int .i64 ((rd_T54 l0 x5_1).f0), .int .i64 ((rd_T54 l0 x5_1).f1), .string ((rd_T54 l0 x5_1).f2)] 54 (0, 0))) ∧ Aside0 (Below w.heap.size w wc))
     case first =>
      have H := HC4.out
      clear HC4
      by_cases c7 : ((rd_T54 l0 x5_1).f1) < 1
      ·rw [if_pos c7] at H
       have c7b0 : decide (((rd_T54 l0 x5_1).f1) < 1) = true := decide_eq_true c7
       clear c7
       (first | rw [c7b0] | (simp only [i64_w, i32_w]; rw [c7b0]) | skip)
       have H' := Aside0.mk H
       clear H
       have q_ := cells3 BK152.out; have hcz8_0 := q_.c0; have hcz8_1 := q_.c1; have hcz8_2 := q_.c2; have hfz8_0 := q_.f0; have hfz8_1 := q_.f1; have hfz8_2 := q_.f2; clear q_
       go_wp2
       go_meet
       case rel => exact ⟨_, (true), (by first | rfl | (simp; done) | (simp [*]; done)), H', ⟨by have := HK1.out; first | omega | exact Nat.le_refl _⟩, ⟨by (with_reducible repeat (first | apply Kd.R_alloc | apply Kd.R_drewN | apply Kd.R_drew)); exact Kd.R_mono (Kd.R_far (p := ⟨gb152, 2, none⟩) (Kd.R_far (p := ⟨gb152, 1, none⟩) (Kd.R_far (p := ⟨gb152, 0, none⟩) (Kd.R_types HO_4.out BK152.out (by decide)) (fun _ hk => hk.2) (.int .i64 ((rd_T54 l0 x5_1).f0))) (fun _ hk => hk.2) (.int .i64 ((rd_T54 l0 x5_1).f1))) (fun _ hk => hk.2) (.string ((rd_T54 l0 x5_1).f2))) (fun _ hk => trivial)⟩, ⟨by (with_reducible repeat first | apply kN | apply kd | apply ka); refine blk_put (cs := #[.int .i64 ((rd_T54 l0 x5_1).f0), .int .i64 ((rd_T54 l0 x5_1).f1), .string (⟨#[]⟩ : ByteArray)]) ?_ 2 _ rfl; (with_reducible repeat first | apply kN | apply kd | apply ka); refine blk_put (cs := #[.int .i64 ((rd_T54 l0 x5_1).f0), .int .i64 0, .string (⟨#[]⟩ : ByteArray)]) ?_ 1 _ rfl; (with_reducible repeat first | apply kN | apply kd | apply ka); refine blk_put (cs := #[.int .i64 0, .int .i64 0, .string (⟨#[]⟩ : ByteArray)]) ?_ 0 _ rfl; (with_reducible repeat first | apply kN | apply kd | apply ka); exact BK152.out⟩, ⟨by repeat (first | (with_reducible first | exact HB.out | apply bA | apply bN | apply bD | refine bS ?_ GE152.out) | exact HB.out)⟩⟩
      ·rw [if_neg c7] at H
       have c7b0 : decide (((rd_T54 l0 x5_1).f1) < 1) = false := decide_eq_false c7
       clear c7
       (first | rw [c7b0] | (simp only [i64_w, i32_w]; rw [c7b0]) | skip)
       by_cases c9 : ((rd_T54 l0 x5_1).f1) > (wrap64 (4096 - (wrap64 ((x4_1.length : Int) / 256))))
       ·rw [if_pos c9] at H
        have c9b0 : decide ((wrap64 (4096 - (wrap64 ((x4_1.length : Int) / 256)))) < ((rd_T54 l0 x5_1).f1)) = true := decide_eq_true c9
        clear c9
        have H' := Aside0.mk H
        clear H
        have q_ := cells3 BK152.out; have hcz10_0 := q_.c0; have hcz10_1 := q_.c1; have hcz10_2 := q_.c2; have hfz10_0 := q_.f0; have hfz10_1 := q_.f1; have hfz10_2 := q_.f2; clear q_
        obtain ⟨Ao11, co11, eo11⟩ := Kd.R_slice HO_4.out
        subst eo11
        go_wp2
        go_meet
        case rel => exact ⟨_, (true), (by first | rfl | (simp; done) | (simp [*]; done)), H', ⟨by have := HK1.out; first | omega | exact Nat.le_refl _⟩, ⟨by (with_reducible repeat (first | apply Kd.R_alloc | apply Kd.R_drewN | apply Kd.R_drew)); exact Kd.R_mono (Kd.R_far (p := ⟨gb152, 2, none⟩) (Kd.R_far (p := ⟨gb152, 1, none⟩) (Kd.R_far (p := ⟨gb152, 0, none⟩) (Kd.R_types HO_4.out BK152.out (by decide)) (fun _ hk => hk.2) (.int .i64 ((rd_T54 l0 x5_1).f0))) (fun _ hk => hk.2) (.int .i64 ((rd_T54 l0 x5_1).f1))) (fun _ hk => hk.2) (.string ((rd_T54 l0 x5_1).f2))) (fun _ hk => trivial)⟩, ⟨by (with_reducible repeat first | apply kN | apply kd | apply ka); refine blk_put (cs := #[.int .i64 ((rd_T54 l0 x5_1).f0), .int .i64 ((rd_T54 l0 x5_1).f1), .string (⟨#[]⟩ : ByteArray)]) ?_ 2 _ rfl; (with_reducible repeat first | apply kN | apply kd | apply ka); refine blk_put (cs := #[.int .i64 ((rd_T54 l0 x5_1).f0), .int .i64 0, .string (⟨#[]⟩ : ByteArray)]) ?_ 1 _ rfl; (with_reducible repeat first | apply kN | apply kd | apply ka); refine blk_put (cs := #[.int .i64 0, .int .i64 0, .string (⟨#[]⟩ : ByteArray)]) ?_ 0 _ rfl; (with_reducible repeat first | apply kN | apply kd | apply ka); exact BK152.out⟩, ⟨by repeat (first | (with_reducible first | exact HB.out | apply bA | apply bN | apply bD | refine bS ?_ GE152.out) | exact HB.out)⟩⟩
       ·rw [if_neg c9] at H
        have c9b0 : decide ((wrap64 (4096 - (wrap64 ((x4_1.length : Int) / 256)))) < ((rd_T54 l0 x5_1).f1)) = false := decide_eq_false c9
        clear c9
        by_cases c12 : ((rd_T54 l0 x5_1).f0) = 1
        ·rw [if_pos c12] at H
         have c12b0 : (((rd_T54 l0 x5_1).f0) == 1) = true := beq_iff_eq.mpr c12
         have c12b1 : (((rd_T54 l0 x5_1).f0) != 1) = false := bne_eq_false_iff_eq.mpr c12
         clear c12
         by_cases c13 : (((rd_T54 l0 x5_1).f2).size : Int) = (wrap64 (256 * ((rd_T54 l0 x5_1).f1)))
         ·rw [if_pos c13] at H
          have c13b0 : ((((rd_T54 l0 x5_1).f2).size : Int) == (wrap64 (256 * ((rd_T54 l0 x5_1).f1)))) = true := beq_iff_eq.mpr c13
          have c13b1 : ((((rd_T54 l0 x5_1).f2).size : Int) != (wrap64 (256 * ((rd_T54 l0 x5_1).f1)))) = false := bne_eq_false_iff_eq.mpr c13
          clear c13
          by_cases c14 : ((rd_T54 l0 x5_1).f0) = 2
          ·rw [if_pos c14] at H
           have c14b0 : (((rd_T54 l0 x5_1).f0) == 2) = true := beq_iff_eq.mpr c14
           have c14b1 : (((rd_T54 l0 x5_1).f0) != 2) = false := bne_eq_false_iff_eq.mpr c14
           clear c14
           have H' := Aside0.mk H
           clear H
           have q_ := cells3 BK152.out; have hcz15_0 := q_.c0; have hcz15_1 := q_.c1; have hcz15_2 := q_.c2; have hfz15_0 := q_.f0; have hfz15_1 := q_.f1; have hfz15_2 := q_.f2; clear q_
           obtain ⟨Ao16, co16, eo16⟩ := Kd.R_slice HO_4.out
           subst eo16
           go_wp2
           go_meet
           case rel => exact ⟨_, (((x4_1.length : Int) == 0)), (by first | rfl | (simp; done) | (simp [*]; done)), H', ⟨by have := HK1.out; first | omega | exact Nat.le_refl _⟩, ⟨by (with_reducible repeat (first | apply Kd.R_alloc | apply Kd.R_drewN | apply Kd.R_drew)); exact Kd.R_mono (Kd.R_far (p := ⟨gb152, 2, none⟩) (Kd.R_far (p := ⟨gb152, 1, none⟩) (Kd.R_far (p := ⟨gb152, 0, none⟩) (Kd.R_types HO_4.out BK152.out (by decide)) (fun _ hk => hk.2) (.int .i64 ((rd_T54 l0 x5_1).f0))) (fun _ hk => hk.2) (.int .i64 ((rd_T54 l0 x5_1).f1))) (fun _ hk => hk.2) (.string ((rd_T54 l0 x5_1).f2))) (fun _ hk => trivial)⟩, ⟨by (with_reducible repeat first | apply kN | apply kd | apply ka); refine blk_put (cs := #[.int .i64 ((rd_T54 l0 x5_1).f0), .int .i64 ((rd_T54 l0 x5_1).f1), .string (⟨#[]⟩ : ByteArray)]) ?_ 2 _ rfl; (with_reducible repeat first | apply kN | apply kd | apply ka); refine blk_put (cs := #[.int .i64 ((rd_T54 l0 x5_1).f0), .int .i64 0, .string (⟨#[]⟩ : ByteArray)]) ?_ 1 _ rfl; (with_reducible repeat first | apply kN | apply kd | apply ka); refine blk_put (cs := #[.int .i64 0, .int .i64 0, .string (⟨#[]⟩ : ByteArray)]) ?_ 0 _ rfl; (with_reducible repeat first | apply kN | apply kd | apply ka); exact BK152.out⟩, ⟨by repeat (first | (with_reducible first | exact HB.out | apply bA | apply bN | apply bD | refine bS ?_ GE152.out) | exact HB.out)⟩⟩
          ·rw [if_neg c14] at H
           have c14b0 : (((rd_T54 l0 x5_1).f0) == 2) = false := beq_eq_false_iff_ne.mpr c14
           have c14b1 : (((rd_T54 l0 x5_1).f0) != 2) = true := bne_iff_ne.mpr c14
           have H' := Aside0.mk H
           clear H
           have q_ := cells3 BK152.out; have hcz17_0 := q_.c0; have hcz17_1 := q_.c1; have hcz17_2 := q_.c2; have hfz17_0 := q_.f0; have hfz17_1 := q_.f1; have hfz17_2 := q_.f2; clear q_
           obtain ⟨Ao18, co18, eo18⟩ := Kd.R_slice HO_4.out
           subst eo18
           go_wp2
           go_meet
           case rel => exact ⟨_, (false), (by first | rfl | (simp; done) | (simp [*]; done)), H', ⟨by have := HK1.out; first | omega | exact Nat.le_refl _⟩, ⟨by (with_reducible repeat (first | apply Kd.R_alloc | apply Kd.R_drewN | apply Kd.R_drew)); exact Kd.R_mono (Kd.R_far (p := ⟨gb152, 2, none⟩) (Kd.R_far (p := ⟨gb152, 1, none⟩) (Kd.R_far (p := ⟨gb152, 0, none⟩) (Kd.R_types HO_4.out BK152.out (by decide)) (fun _ hk => hk.2) (.int .i64 ((rd_T54 l0 x5_1).f0))) (fun _ hk => hk.2) (.int .i64 ((rd_T54 l0 x5_1).f1))) (fun _ hk => hk.2) (.string ((rd_T54 l0 x5_1).f2))) (fun _ hk => trivial)⟩, ⟨by (with_reducible repeat first | apply kN | apply kd | apply ka); refine blk_put (cs := #[.int .i64 ((rd_T54 l0 x5_1).f0), .int .i64 ((rd_T54 l0 x5_1).f1), .string (⟨#[]⟩ : ByteArray)]) ?_ 2 _ rfl; (with_reducible repeat first | apply kN | apply kd | apply ka); refine blk_put (cs := #[.int .i64 ((rd_T54 l0 x5_1).f0), .int .i64 0, .string (⟨#[]⟩ : ByteArray)]) ?_ 1 _ rfl; (with_reducible repeat first | apply kN | apply kd | apply ka); refine blk_put (cs := #[.int .i64 0, .int .i64 0, .string (⟨#[]⟩ : ByteArray)]) ?_ 0 _ rfl; (with_reducible repeat first | apply kN | apply kd | apply ka); exact BK152.out⟩, ⟨by repeat (first | (with_reducible first | exact HB.out | apply bA | apply bN | apply bD | refine bS ?_ GE152.out) | exact HB.out)⟩⟩
         ·rw [if_neg c13] at H
          have c13b0 : ((((rd_T54 l0 x5_1).f2).size : Int) == (wrap64 (256 * ((rd_T54 l0 x5_1).f1)))) = false := beq_eq_false_iff_ne.mpr c13
          have c13b1 : ((((rd_T54 l0 x5_1).f2).size : Int) != (wrap64 (256 * ((rd_T54 l0 x5_1).f1)))) = true := bne_iff_ne.mpr c13
          have H' := Aside0.mk H
          clear H
          have q_ := cells3 BK152.out; have hcz19_0 := q_.c0; have hcz19_1 := q_.c1; have hcz19_2 := q_.c2; have hfz19_0 := q_.f0; have hfz19_1 := q_.f1; have hfz19_2 := q_.f2; clear q_
          obtain ⟨Ao20, co20, eo20⟩ := Kd.R_slice HO_4.out
          subst eo20
          go_wp2
          go_meet
          case rel => exact ⟨_, (true), (by first | rfl | (simp; done) | (simp [*]; done)), H', ⟨by have := HK1.out; first | omega | exact Nat.le_refl _⟩, ⟨by (with_reducible repeat (first | apply Kd.R_alloc | apply Kd.R_drewN | apply Kd.R_drew)); exact Kd.R_mono (Kd.R_far (p := ⟨gb152, 2, none⟩) (Kd.R_far (p := ⟨gb152, 1, none⟩) (Kd.R_far (p := ⟨gb152, 0, none⟩) (Kd.R_types HO_4.out BK152.out (by decide)) (fun _ hk => hk.2) (.int .i64 ((rd_T54 l0 x5_1).f0))) (fun _ hk => hk.2) (.int .i64 ((rd_T54 l0 x5_1).f1))) (fun _ hk => hk.2) (.string ((rd_T54 l0 x5_1).f2))) (fun _ hk => trivial)⟩, ⟨by (with_reducible repeat first | apply kN | apply kd | apply ka); refine blk_put (cs := #[.int .i64 ((rd_T54 l0 x5_1).f0), .int .i64 ((rd_T54 l0 x5_1).f1), .string (⟨#[]⟩ : ByteArray)]) ?_ 2 _ rfl; (with_reducible repeat first | apply kN | apply kd | apply ka); refine blk_put (cs := #[.int .i64 ((rd_T54 l0 x5_1).f0), .int .i64 0, .string (⟨#[]⟩ : ByteArray)]) ?_ 1 _ rfl; (with_reducible repeat first | apply kN | apply kd | apply ka); refine blk_put (cs := #[.int .i64 0, .int .i64 0, .string (⟨#[]⟩ : ByteArray)]) ?_ 0 _ rfl; (with_reducible repeat first | apply kN | apply kd | apply ka); exact BK152.out⟩, ⟨by repeat (first | (with_reducible first | exact HB.out | apply bA | apply bN | apply bD | refine bS ?_ GE152.out) | exact HB.out)⟩⟩
        ·rw [if_neg c12] at H
         have c12b0 : (((rd_T54 l0 x5_1).f0) == 1) = false := beq_eq_false_iff_ne.mpr c12
         have c12b1 : (((rd_T54 l0 x5_1).f0) != 1) = true := bne_iff_ne.mpr c12
         by_cases c21 : ((rd_T54 l0 x5_1).f0) = 2
         ·rw [if_pos c21] at H
          have c21b0 : (((rd_T54 l0 x5_1).f0) == 2) = true := beq_iff_eq.mpr c21
          have c21b1 : (((rd_T54 l0 x5_1).f0) != 2) = false := bne_eq_false_iff_eq.mpr c21
          clear c21
          have H' := Aside0.mk H
          clear H
          have q_ := cells3 BK152.out; have hcz22_0 := q_.c0; have hcz22_1 := q_.c1; have hcz22_2 := q_.c2; have hfz22_0 := q_.f0; have hfz22_1 := q_.f1; have hfz22_2 := q_.f2; clear q_
          obtain ⟨Ao23, co23, eo23⟩ := Kd.R_slice HO_4.out
          subst eo23
          go_wp2
          go_meet
          case rel => exact ⟨_, (((x4_1.length : Int) == 0)), (by first | rfl | (simp; done) | (simp [*]; done)), H', ⟨by have := HK1.out; first | omega | exact Nat.le_refl _⟩, ⟨by (with_reducible repeat (first | apply Kd.R_alloc | apply Kd.R_drewN | apply Kd.R_drew)); exact Kd.R_mono (Kd.R_far (p := ⟨gb152, 2, none⟩) (Kd.R_far (p := ⟨gb152, 1, none⟩) (Kd.R_far (p := ⟨gb152, 0, none⟩) (Kd.R_types HO_4.out BK152.out (by decide)) (fun _ hk => hk.2) (.int .i64 ((rd_T54 l0 x5_1).f0))) (fun _ hk => hk.2) (.int .i64 ((rd_T54 l0 x5_1).f1))) (fun _ hk => hk.2) (.string ((rd_T54 l0 x5_1).f2))) (fun _ hk => trivial)⟩, ⟨by (with_reducible repeat first | apply kN | apply kd | apply ka); refine blk_put (cs := #[.int .i64 ((rd_T54 l0 x5_1).f0), .int .i64 ((rd_T54 l0 x5_1).f1), .string (⟨#[]⟩ : ByteArray)]) ?_ 2 _ rfl; (with_reducible repeat first | apply kN | apply kd | apply ka); refine blk_put (cs := #[.int .i64 ((rd_T54 l0 x5_1).f0), .int .i64 0, .string (⟨#[]⟩ : ByteArray)]) ?_ 1 _ rfl; (with_reducible repeat first | apply kN | apply kd | apply ka); refine blk_put (cs := #[.int .i64 0, .int .i64 0, .string (⟨#[]⟩ : ByteArray)]) ?_ 0 _ rfl; (with_reducible repeat first | apply kN | apply kd | apply ka); exact BK152.out⟩, ⟨by repeat (first | (with_reducible first | exact HB.out | apply bA | apply bN | apply bD | refine bS ?_ GE152.out) | exact HB.out)⟩⟩
         ·rw [if_neg c21] at H
          have c21b0 : (((rd_T54 l0 x5_1).f0) == 2) = false := beq_eq_false_iff_ne.mpr c21
          have c21b1 : (((rd_T54 l0 x5_1).f0) != 2) = true := bne_iff_ne.mpr c21
          have H' := Aside0.mk H
          clear H
          have q_ := cells3 BK152.out; have hcz24_0 := q_.c0; have hcz24_1 := q_.c1; have hcz24_2 := q_.c2; have hfz24_0 := q_.f0; have hfz24_1 := q_.f1; have hfz24_2 := q_.f2; clear q_
          obtain ⟨Ao25, co25, eo25⟩ := Kd.R_slice HO_4.out
          subst eo25
          go_wp2
          go_meet
          case rel => exact ⟨_, (false), (by first | rfl | (simp; done) | (simp [*]; done)), H', ⟨by have := HK1.out; first | omega | exact Nat.le_refl _⟩, ⟨by (with_reducible repeat (first | apply Kd.R_alloc | apply Kd.R_drewN | apply Kd.R_drew)); exact Kd.R_mono (Kd.R_far (p := ⟨gb152, 2, none⟩) (Kd.R_far (p := ⟨gb152, 1, none⟩) (Kd.R_far (p := ⟨gb152, 0, none⟩) (Kd.R_types HO_4.out BK152.out (by decide)) (fun _ hk => hk.2) (.int .i64 ((rd_T54 l0 x5_1).f0))) (fun _ hk => hk.2) (.int .i64 ((rd_T54 l0 x5_1).f1))) (fun _ hk => hk.2) (.string ((rd_T54 l0 x5_1).f2))) (fun _ hk => trivial)⟩, ⟨by (with_reducible repeat first | apply kN | apply kd | apply ka); refine blk_put (cs := #[.int .i64 ((rd_T54 l0 x5_1).f0), .int .i64 ((rd_T54 l0 x5_1).f1), .string (⟨#[]⟩ : ByteArray)]) ?_ 2 _ rfl; (with_reducible repeat first | apply kN | apply kd | apply ka); refine blk_put (cs := #[.int .i64 ((rd_T54 l0 x5_1).f0), .int .i64 0, .string (⟨#[]⟩ : ByteArray)]) ?_ 1 _ rfl; (with_reducible repeat first | apply kN | apply kd | apply ka); refine blk_put (cs := #[.int .i64 0, .int .i64 0, .string (⟨#[]⟩ : ByteArray)]) ?_ 0 _ rfl; (with_reducible repeat first | apply kN | apply kd | apply ka); exact BK152.out⟩, ⟨by repeat (first | (with_reducible first | exact HB.out | apply bA | apply bN | apply bD | refine bS ?_ GE152.out) | exact HB.out)⟩⟩
     case rest =>
      clear HC4
      try clear c1
      try clear p1
      try clear q1
      try clear hx1
      try clear c2
      try clear c2b0
      try clear p2
      try clear c3
      try clear c3b0
      try clear p6
      try clear c7
      try clear c7b0
      try clear c9
      try clear c9b0
      try clear c12
      try clear c12b0
      try clear c12b1
      try clear c13
      try clear c13b0
      try clear c13b1
      try clear c14
      try clear c14b0
      try clear c14b1
      try clear p15
      try clear q15
      try clear hx15
      try clear c16
      try clear c21
      try clear c21b0
      try clear c21b1
      try clear hcz10_0 hcz10_1 hcz10_2
      try clear hcz15_0 hcz15_1 hcz15_2
      try clear hcz17_0 hcz17_1 hcz17_2
      try clear hcz19_0 hcz19_1 hcz19_2
      try clear hcz22_0 hcz22_1 hcz22_2
      try clear hcz24_0 hcz24_1 hcz24_2
      try clear hcz6_0 hcz6_1 hcz6_2
      try clear hcz8_0 hcz8_1 hcz8_2
      try clear hfz10_0 hfz10_1 hfz10_2
      try clear hfz15_0 hfz15_1 hfz15_2
      try clear hfz17_0 hfz17_1 hfz17_2
      try clear hfz19_0 hfz19_1 hfz19_2
      try clear hfz22_0 hfz22_1 hfz22_2
      try clear hfz24_0 hfz24_1 hfz24_2
      try clear hfz6_0 hfz6_1 hfz6_2
      try clear hfz8_0 hfz8_1 hfz8_2
      try clear hx151_0
      try clear hx151_1
      try clear hx151_2
      try clear p151
      try clear q151
      obtain ⟨kq, x56_3, rfl, HA, HJ3, HO_4, BK152, HB⟩ := hcut
      cases kq with
      | zero => exact absurd HA.out (by simp [leveeref32_Blocks.j1])
      | succ kj3 =>
       have H := HA.out
       clear HA
       simp only [leveeref32_Blocks.j1] at H
       by_cases c26 : x56_3 = true
       ·subst c26
        have H1 : (some (([] : List Int), 1)) = some (r1, r2) := by rw [if_pos rfl] at H; exact H
        clear H
        have H := H1
        clear H1
        simp only [Option.some.injEq, Prod.mk.injEq] at H
        obtain ⟨rfl, rfl⟩ := H
        go_wp2
        go_ret2
        exact ⟨_, by first | rfl | (simp [errW_none, errW_some] <;> rfl) | (simp [*, errW_none, errW_some] <;> rfl), by first | exact Kd.R_nil _ _ _ _ _ | exact Kd.N_nil _ _ _ _ _ | exact Kd.V_nil _ _ _ _ _ | exact TQ.Q_nil _ _ _ _ _ | exact Kd.S_nil _ _ _ _ _, by repeat (first | (with_reducible first | exact HB.out | apply bA | apply bN | apply bD | refine bS ?_ GE152.out) | exact HB.out)⟩
       ·replace c26 := Bool.eq_false_iff.mpr c26
        subst c26
        have H1 : (if ((rd_T54 l0 x5_1).f0) = 1 then (if x4_1.length + ((rd_T54 l0 x5_1).f2).size < 140737488355328 then (leveeref32_Blocks.l0 kj3 l0 (x4_1 ++ bytesOf ((rd_T54 l0 x5_1).f2)) (wrap64 (x5_1 + 1))) else (none)) else (leveeref32_Blocks.l1 kj3 l0 x4_1 x5_1 0 ((rd_T54 l0 x5_1).f0) ((rd_T54 l0 x5_1).f1) ((rd_T54 l0 x5_1).f2))) = some (r1, r2) := by rw [if_neg (show ¬ (false = true) by decide)] at H; exact H
        clear H
        have H := H1
        clear H1
        by_cases c27 : ((rd_T54 l0 x5_1).f0) = 1
        ·rw [if_pos c27] at H
         have c27b0 : (((rd_T54 l0 x5_1).f0) == 1) = true := beq_iff_eq.mpr c27
         have c27b1 : (((rd_T54 l0 x5_1).f0) != 1) = false := bne_eq_false_iff_eq.mpr c27
         clear c27
         by_cases c28 : x4_1.length + ((rd_T54 l0 x5_1).f2).size < 140737488355328
         ·rw [if_pos c28] at H
          have LMc28 := Aside0.mk c28
          clear c28
          obtain ⟨y153, hy153⟩ : ∃ y_ : List Int, y_ = (x4_1 ++ bytesOf ((rd_T54 l0 x5_1).f2)) := ⟨_, rfl⟩
          replace H : (leveeref32_Blocks.l0 kj3 l0 y153 (wrap64 (x5_1 + 1))) = some (r1, r2) := by first | (rw [hy153]; with_reducible exact H) | (have H2_ := (Option.bind_some _ _).symm.trans H; rw [hy153]; with_reducible exact H2_) | (have H2_ := (Option.bind_some _ _).symm.trans H; with_reducible exact H2_) | with_reducible exact H | (rw [hy153]; exact H) | exact H
          have Ny153 := Aside0.mk hy153
          clear hy153
          have H' := Aside0.mk H
          clear H
          have q_ := cells3 BK152.out; have hcz29_0 := q_.c0; have hcz29_1 := q_.c1; have hcz29_2 := q_.c2; have hfz29_0 := q_.f0; have hfz29_1 := q_.f1; have hfz29_2 := q_.f2; clear q_
          go_wp2_with (first | (at_builtin; refine print_append_str (w0 := w) w.heap.size rfl (.tmp 60) _ 22 9 5 rfl Try.underlying22 Try.underlying9 info5 u4 x4_1 ((rd_T54 l0 x5_1).f2) rfl rfl ?aO ?aB ?aS ?aL ?_; (case aB => exact (by repeat (first | (with_reducible first | exact HB.out | apply bA | apply bN | apply bD | refine bS ?_ GE152.out) | exact HB.out))); (case aO => exact (Kd.own_of_R (by (with_reducible repeat (first | apply Kd.R_alloc | apply Kd.R_drewN | apply Kd.R_drew)); exact HO_4.out))); (case aS => exact (below_size (by repeat (first | (with_reducible first | exact HB.out | apply bA | apply bN | apply bD | refine bS ?_ GE152.out) | exact HB.out)))); (case aL => have := LMc28.out; omega); intro v154 w30 ho0 hb hg; have ho := Kd.R_of_own (h1 := fun _ => rfl) (ok := fun _ => True) ho0 (fun _ _ => trivial); clear ho0; have hat := True.intro; rw [← Ny153.out] at ho; change Kd.R (Kd.int .u8) 5 w30 w.heap.size (fun _ => True) v154 y153 at ho; have n0_ := Aside0.mk (blk_grown (g := gb152) (o := .cells #[.int .i64 ((rd_T54 l0 x5_1).f0), .int .i64 ((rd_T54 l0 x5_1).f1), .string ((rd_T54 l0 x5_1).f2)] 54 (0, 0)) (by (with_reducible repeat first | apply kN | apply kd | apply ka); exact BK152.out) hg (Kd.R_ne HO_4.out BK152.out (by decide))); have n1_ := Aside0.mk (hb); have n2_ := Aside0.mk (ho); clear BK152; clear HB; clear HO_4; have BK152 := n0_; have HB := n1_; have HO155 := n2_; clear n0_ n1_ n2_; clear ho hb hg hat))
          go_roundg kj3
          case measure => have := HK1.out; have := HJ3.out; omega
          case rel => exact ⟨(y153), (wrap64 (x5_1 + 1)), (by first | rfl | (simp; done) | (simp [*]; done)), H', ⟨by have := HK1.out; have := HJ3.out; omega⟩, ⟨by (with_reducible repeat (first | apply Kd.R_alloc | apply Kd.R_drewN | apply Kd.R_drew)); exact HO155.out⟩, ⟨by repeat (first | (with_reducible first | exact HB.out | apply bA | apply bN | apply bD | refine bS ?_ GE152.out) | exact HB.out)⟩⟩
         ·rw [if_neg c28] at H
          exact absurd H (by simp)
        ·rw [if_neg c27] at H
         have c27b0 : (((rd_T54 l0 x5_1).f0) == 1) = false := beq_eq_false_iff_ne.mpr c27
         have c27b1 : (((rd_T54 l0 x5_1).f0) != 1) = true := bne_iff_ne.mpr c27
         have H' := Aside0.mk H
         clear H
         have q_ := cells3 BK152.out; have hcz31_0 := q_.c0; have hcz31_1 := q_.c1; have hcz31_2 := q_.c2; have hfz31_0 := q_.f0; have hfz31_1 := q_.f1; have hfz31_2 := q_.f2; clear q_
         go_wp2
         go_loopg [4, 7] kj3 (fun kq v4 v7 w' => ∃ (x4_3 : List Int) (x7_3 : Int), v7 = .int .i64 x7_3 ∧ Aside0 (leveeref32_Blocks.l1 kq l0 x4_3 x5_1 x7_3 ((rd_T54 l0 x5_1).f0) ((rd_T54 l0 x5_1).f1) ((rd_T54 l0 x5_1).f2) = some (r1, r2)) ∧ Aside0 (kq ≤ kj3) ∧ Aside0 (Kd.R (Kd.int .u8) 5 w' w.heap.size (fun _ => True) v4 x4_3) ∧ Aside0 (w'.heap[gb152]? = some (.cells #[.int .i64 ((rd_T54 l0 x5_1).f0), .int .i64 ((rd_T54 l0 x5_1).f1), .string ((rd_T54 l0 x5_1).f2)] 54 (0, 0))) ∧ Aside0 (Below w.heap.size w w'))
         case atStart => exact ⟨(x4_1), (0), (by first | rfl | (simp; done) | (simp [*]; done)), H', ⟨Nat.le_refl _⟩, ⟨by (with_reducible repeat (first | apply Kd.R_alloc | apply Kd.R_drewN | apply Kd.R_drew)); exact HO_4.out⟩, ⟨by (with_reducible repeat first | apply kN | apply kd | apply ka); exact BK152.out⟩, ⟨by repeat (first | (with_reducible first | exact HB.out | apply bA | apply bN | apply bD | refine bS ?_ GE152.out) | exact HB.out)⟩⟩
         case round =>
          clear H'
          try clear c1
          try clear p1
          try clear q1
          try clear hx1
          try clear c2
          try clear c2b0
          try clear p2
          try clear c3
          try clear c3b0
          try clear p6
          try clear c7
          try clear c7b0
          try clear c9
          try clear c9b0
          try clear c12
          try clear c12b0
          try clear c12b1
          try clear c13
          try clear c13b0
          try clear c13b1
          try clear c14
          try clear c14b0
          try clear c14b1
          try clear p15
          try clear q15
          try clear hx15
          try clear c16
          try clear c21
          try clear c21b0
          try clear c21b1
          try clear c26
          try clear c27
          try clear c27b0
          try clear c27b1
          try clear c28
          try clear hcz10_0 hcz10_1 hcz10_2
          try clear hcz15_0 hcz15_1 hcz15_2
          try clear hcz17_0 hcz17_1 hcz17_2
          try clear hcz19_0 hcz19_1 hcz19_2
          try clear hcz22_0 hcz22_1 hcz22_2
          try clear hcz24_0 hcz24_1 hcz24_2
          try clear hcz29_0 hcz29_1 hcz29_2
          try clear hcz31_0 hcz31_1 hcz31_2
          try clear hcz6_0 hcz6_1 hcz6_2
          try clear hcz8_0 hcz8_1 hcz8_2
          try clear hfz10_0 hfz10_1 hfz10_2
          try clear hfz15_0 hfz15_1 hfz15_2
          try clear hfz17_0 hfz17_1 hfz17_2
          try clear hfz19_0 hfz19_1 hfz19_2
          try clear hfz22_0 hfz22_1 hfz22_2
          try clear hfz24_0 hfz24_1 hfz24_2
          try clear hfz29_0 hfz29_1 hfz29_2
          try clear hfz31_0 hfz31_1 hfz31_2
          try clear hfz6_0 hfz6_1 hfz6_2
          try clear hfz8_0 hfz8_1 hfz8_2
          try clear hx151_0
          try clear hx151_1
          try clear hx151_2
          try clear p1
          try clear p15
          try clear p151
          try clear p2
          try clear p6
          try clear q1
          try clear q15
          try clear q151
          obtain ⟨x4_3, x7_3, rfl, HA, HK3, HO_4, BK152, HB⟩ := hrel
          cases gk with
          | zero => exact absurd HA.out (by intro h0_; cases h0_)
          | succ k3 =>
           have H := HA.out
           clear HA
           simp only [leveeref32_Blocks.l1] at H
           by_cases c32 : x7_3 < ((rd_T54 l0 x5_1).f1)
           ·rw [if_pos c32] at H
            have c32b0 : decide (x7_3 < ((rd_T54 l0 x5_1).f1)) = true := decide_eq_true c32
            clear c32
            by_cases c33 : 256 ≤ 281474976710656
            ·rw [if_pos c33] at H
             have c33b0 := eq_true c33
             have c33b1 : decide (256 ≤ 281474976710656) = true := decide_eq_true c33
             clear c33
             obtain ⟨y156, hy156⟩ : ∃ y_ : List Int, y_ = (List.replicate 256 0) := ⟨_, rfl⟩
             replace H : (if ((rd_T54 l0 x5_1).f0) = 2 then (if 0 ≤ (wrap64 ((x4_3.length : Int) - 256)) then (if (wrap64 ((x4_3.length : Int) - 256)) ≤ (x4_3.length : Int) then ((leveeref01_Lent.f (x4_3.drop ((wrap64 ((x4_3.length : Int) - 256)) : Int).toNat)).bind fun t163 => (if x4_3.length + t163.length < 140737488355328 then (leveeref32_Blocks.l1 k3 l0 (x4_3 ++ t163) x5_1 (wrap64 (x7_3 + 1)) ((rd_T54 l0 x5_1).f0) ((rd_T54 l0 x5_1).f1) ((rd_T54 l0 x5_1).f2)) else (none))) else (none)) else (none)) else (if x4_3.length + y156.length < 140737488355328 then (leveeref32_Blocks.l1 k3 l0 (x4_3 ++ y156) x5_1 (wrap64 (x7_3 + 1)) ((rd_T54 l0 x5_1).f0) ((rd_T54 l0 x5_1).f1) ((rd_T54 l0 x5_1).f2)) else (none))) = some (r1, r2) := by first | (rw [hy156]; with_reducible exact H) | (have H2_ := (Option.bind_some _ _).symm.trans H; rw [hy156]; with_reducible exact H2_) | (have H2_ := (Option.bind_some _ _).symm.trans H; with_reducible exact H2_) | with_reducible exact H | (rw [hy156]; exact H) | exact H
             have Ny156 := Aside0.mk hy156
             clear hy156
             by_cases c34 : ((rd_T54 l0 x5_1).f0) = 2
             ·rw [if_pos c34] at H
              have c34b0 : (((rd_T54 l0 x5_1).f0) == 2) = true := beq_iff_eq.mpr c34
              have c34b1 : (((rd_T54 l0 x5_1).f0) != 2) = false := bne_eq_false_iff_eq.mpr c34
              clear c34
              obtain ⟨ji35, hji35⟩ : ∃ j_ : Int, (wrap64 ((x4_3.length : Int) - 256)) = j_ := ⟨_, rfl⟩
              replace H : (if 0 ≤ (ji35) then (if (ji35) ≤ (x4_3.length : Int) then ((leveeref01_Lent.f (x4_3.drop ((ji35) : Int).toNat)).bind fun t163 => (if x4_3.length + t163.length < 140737488355328 then (leveeref32_Blocks.l1 k3 l0 (x4_3 ++ t163) x5_1 (wrap64 (x7_3 + 1)) ((rd_T54 l0 x5_1).f0) ((rd_T54 l0 x5_1).f1) ((rd_T54 l0 x5_1).f2)) else (none))) else (none)) else (none)) = some (r1, r2) := by first | (rw [hji35] at H; exact H) | (simp only [hji35] at H ⊢; exact H)
              have hji35w : (IntKind.i64.wrap ((x4_3.length : Int) - 256)) = ji35 := (i64_w _).trans hji35
              by_cases c36 : 0 ≤ (ji35)
              ·rw [if_pos c36] at H
               have c36b0 := eq_true c36
               have c36b1 : decide (0 ≤ (ji35)) = true := decide_eq_true c36
               clear c36
               by_cases c37 : (ji35) ≤ (x4_3.length : Int)
               ·rw [if_pos c37] at H
                have c37b0 := eq_true c37
                have c37b1 : decide ((ji35) ≤ (x4_3.length : Int)) = true := decide_eq_true c37
                clear c37
                obtain ⟨y159, hy159⟩ : ∃ y_ : List Int, y_ = (x4_3.drop ((ji35) : Int).toNat) := ⟨_, rfl⟩
                replace H : ((leveeref01_Lent.f y159).bind fun t163 => (if x4_3.length + t163.length < 140737488355328 then (leveeref32_Blocks.l1 k3 l0 (x4_3 ++ t163) x5_1 (wrap64 (x7_3 + 1)) ((rd_T54 l0 x5_1).f0) ((rd_T54 l0 x5_1).f1) ((rd_T54 l0 x5_1).f2)) else (none))) = some (r1, r2) := by first | (rw [hy159]; with_reducible exact H) | (have H2_ := (Option.bind_some _ _).symm.trans H; rw [hy159]; with_reducible exact H2_) | (have H2_ := (Option.bind_some _ _).symm.trans H; with_reducible exact H2_) | with_reducible exact H | (rw [hy159]; exact H) | exact H
                have Ny159 := Aside0.mk hy159
                clear hy159
                replace H := Option.bind_eq_some_iff.mp H
                obtain ⟨t163, A380, H⟩ := H
                replace H : (if x4_3.length + t163.length < 140737488355328 then (leveeref32_Blocks.l1 k3 l0 (x4_3 ++ t163) x5_1 (wrap64 (x7_3 + 1)) ((rd_T54 l0 x5_1).f0) ((rd_T54 l0 x5_1).f1) ((rd_T54 l0 x5_1).f2)) else (none)) = some (r1, r2) := H
                have A38 := Aside0.mk A380
                clear A380
                by_cases c39 : x4_3.length + t163.length < 140737488355328
                ·rw [if_pos c39] at H
                 have LMc39 := Aside0.mk c39
                 clear c39
                 obtain ⟨y166, hy166⟩ : ∃ y_ : List Int, y_ = (x4_3 ++ t163) := ⟨_, rfl⟩
                 replace H : (leveeref32_Blocks.l1 k3 l0 y166 x5_1 (wrap64 (x7_3 + 1)) ((rd_T54 l0 x5_1).f0) ((rd_T54 l0 x5_1).f1) ((rd_T54 l0 x5_1).f2)) = some (r1, r2) := by first | (rw [hy166]; with_reducible exact H) | (have H2_ := (Option.bind_some _ _).symm.trans H; rw [hy166]; with_reducible exact H2_) | (have H2_ := (Option.bind_some _ _).symm.trans H; with_reducible exact H2_) | with_reducible exact H | (rw [hy166]; exact H) | exact H
                 have Ny166 := Aside0.mk hy166
                 clear hy166
                 have H' := Aside0.mk H
                 clear H
                 have q_ := cells3 BK152.out; have hcz40_0 := q_.c0; have hcz40_1 := q_.c1; have hcz40_2 := q_.c2; have hfz40_0 := q_.f0; have hfz40_1 := q_.f1; have hfz40_2 := q_.f2; clear q_
                 go_wp2_with (first | ((with_reducible refine gate_dst (N := 70) rfl ?_); (try (refine gate_guard (by rfl) ?_; dsimp only)); refine Kd.R_make (Kd.int .u8) _ 5 rfl (N := 70) rfl 22 _ _ rfl 256 rfl rfl Try.underlying22 (.int .u8 0) 1 info5 rfl (by decide) (by omega) 0 (ok := fun _ => True) (okp := fun _ => True) rfl (fun _ hk => hk) trivial (by omega) (by omega) (Below.refl _ _) (Nat.le_refl _) ?_; intro v157 w41 ho42 hb hg_ hnew_; clear hg_ hnew_; (first | rw [← Ny156.out] at ho42 | (simp only [Int.reduceToNat] at ho42; rw [← Ny156.out] at ho42)); have n0_ := Aside0.mk (Kd.R_elder' (by (with_reducible repeat (first | apply Kd.R_alloc | apply Kd.R_drewN | apply Kd.R_drew)); exact HO_4.out) (Kd.R_base ho42) hb); have n1_ := Aside0.mk (Kd.R_lower (Kd.R_new' ho42 (Kd.R_lt (by (with_reducible repeat (first | apply Kd.R_alloc | apply Kd.R_drewN | apply Kd.R_drew)); exact HO_4.out))) (below_size (by repeat (first | (with_reducible first | exact HB.out | apply bA | apply bN | apply bD | refine bS ?_ GE152.out) | exact HB.out)))); have n2_ := Aside0.mk (blk_below (g := gb152) (o := .cells #[.int .i64 ((rd_T54 l0 x5_1).f0), .int .i64 ((rd_T54 l0 x5_1).f1), .string ((rd_T54 l0 x5_1).f2)] 54 (0, 0)) (by (with_reducible repeat first | apply kN | apply kd | apply ka); exact BK152.out) hb); have n3_ := Aside0.mk (below_step (by repeat (first | (with_reducible first | exact HB.out | apply bA | apply bN | apply bD | refine bS ?_ GE152.out) | exact HB.out)) hb); clear HO_4; clear BK152; clear HB; have HO_4 := n0_; have HO158 := n1_; have BK152 := n2_; have HB := n3_; clear n0_ n1_ n2_ n3_; clear hb ho42; have q_ := cells3 BK152.out; have hcz43_0 := q_.c0; have hcz43_1 := q_.c1; have hcz43_2 := q_.c2; have hfz43_0 := q_.f0; have hfz43_1 := q_.f1; have hfz43_2 := q_.f2; clear q_; obtain ⟨Ao44, co44, eo44⟩ := Kd.R_slice HO_4.out; subst eo44; have q45 : ((ji35) : Int) ≤ ((x4_3.length : Int) : Int) := of_decide_eq_true (by first | (with_reducible assumption) | assumption); obtain ⟨i045, hi045, _, hsz45, _⟩ := info_parts info5; have hroom45 : x4_3.length ≤ co44 := (Kd.R_reads' HO_4.out).2.1; have hC45 : Kd.C (Kd.int .u8) _ Ao44 x4_3.length x4_3 := (Kd.R_reads' HO_4.out).2.2; have q045 : (0 : Int) ≤ ((ji35) : Int) := of_decide_eq_true (by first | (with_reducible assumption) | assumption); have hcut45 := cut_from (P := Try.prog) 22 5 .i64 Try.underlying22 hi045 1 hsz45 Ao44 x4_3.length co44 (ji35) q045 q45; have hr45 := Kd.C_drop (m := ((ji35) : Int).toNat) (c := co44) hC45 (by omega) hroom45; obtain ⟨A45, hA45⟩ : ∃ A1, A1 = (if co44 = ((ji35) : Int).toNat then Ao44 else (Ao44 : Option Addr).map (·.add (((ji35) : Int).toNat * 1))) := ⟨_, rfl⟩; obtain ⟨c45, hc45⟩ : ∃ c1, c1 = co44 - ((ji35) : Int).toNat := ⟨_, rfl⟩; have hy45 : y159.length = x4_3.length - ((ji35) : Int).toNat := (by rw [Ny159.out, List.length_drop] <;> omega); rw [show (x4_3).drop ((ji35) : Int).toNat = y159 from Ny159.out.symm] at hr45; replace hr45 : Kd.C (Kd.int .u8) _ A45 y159.length y159 := (by rw [hA45]; exact hr45); rw [← hy45, ← hA45, ← hc45] at hcut45; have HR162 := Aside0.mk hr45; have HC162 := Aside0.mk (show y159.length ≤ c45 from by rw [hy45, hc45]; exact Nat.sub_le_sub_right hroom45 _); clear hr45 hC45 hroom45 hi045 hsz45 hc45; have KY45 := Aside0.mk hy45; have KA45 := Aside0.mk hA45; clear hy45 hA45; have KL45 := Aside0.mk (show ((ji35) : Int).toNat ≤ x4_3.length from by omega); replace q45 := eq_true q45) | ((with_reducible refine gate_callee (f := 8) rfl ?_); refine goesL_ (some 79) rfl rfl Try.func8 (by kernel_rfl) rfl #[.slice A45 y159.length c45] rfl (by (try simp only [List.map_toArray, List.map_cons, List.map_nil]); first | done | rfl | (simp only [List.length_drop, List.length_take]; rfl)) ?_; (with_reducible refine (leveeref01_Lent.calls _ _ y159 t163 _ ?side1 ?side2 A38.out).mono ?_); (case side1 => repeat (first | exact (by repeat (first | (with_reducible exact HR162.out) | (with_reducible refine Kd.C_alloc ?_ _) | (with_reducible refine Kd.C_drewN ?_ _) | (with_reducible refine Kd.C_drew ?_) | exact HR162.out)) | (with_reducible refine Kd.C_alloc ?_ _) | (with_reducible refine Kd.C_drewN ?_ _) | (with_reducible refine Kd.C_drew ?_))); (case side2 => exact HC162.out); rintro e w46 ⟨v164, rfl, ho0, hb⟩; refine ⟨_, rfl, ?_⟩; have n0_ := Aside0.mk (Kd.R_elder' (by (with_reducible repeat (first | apply Kd.R_alloc | apply Kd.R_drewN | apply Kd.R_drew)); exact HO_4.out) (TQ.Q_base ho0) hb); have n1_ := Aside0.mk (Kd.R_elder' (by (with_reducible repeat (first | apply Kd.R_alloc | apply Kd.R_drewN | apply Kd.R_drew)); exact HO158.out) (TQ.Q_base ho0) hb); have n2_ := Aside0.mk (TQ.Q_lower (TQ.Q_new' (TQ.Q_new' ho0 (Kd.R_lt (by (with_reducible repeat (first | apply Kd.R_alloc | apply Kd.R_drewN | apply Kd.R_drew)); exact HO_4.out))) (Kd.R_lt (by (with_reducible repeat (first | apply Kd.R_alloc | apply Kd.R_drewN | apply Kd.R_drew)); exact HO158.out))) (below_size (by repeat (first | (with_reducible first | exact HB.out | apply bA | apply bN | apply bD | refine bS ?_ GE152.out) | exact HB.out)))); have n3_ := Aside0.mk (blk_below (g := gb152) (o := .cells #[.int .i64 ((rd_T54 l0 x5_1).f0), .int .i64 ((rd_T54 l0 x5_1).f1), .string ((rd_T54 l0 x5_1).f2)] 54 (0, 0)) (by (with_reducible repeat first | apply kN | apply kd | apply ka); exact BK152.out) hb); have n4_ := Aside0.mk (Kd.C_below (by repeat (first | (with_reducible exact HR162.out) | (with_reducible refine Kd.C_alloc ?_ _) | (with_reducible refine Kd.C_drewN ?_ _) | (with_reducible refine Kd.C_drew ?_) | exact HR162.out)) hb); have n5_ := Aside0.mk (below_step (by repeat (first | (with_reducible first | exact HB.out | apply bA | apply bN | apply bD | refine bS ?_ GE152.out) | exact HB.out)) hb); clear HO_4; clear HO158; clear BK152; clear HR162; clear HB; have HO_4 := n0_; have HO158 := n1_; have HO165 := n2_; have BK152 := n3_; have HR162 := n4_; have HB := n5_; clear n0_ n1_ n2_ n3_ n4_ n5_; (try clear hb); (try clear hb2); (try clear hk); (try clear hi); (try clear ho0); obtain ⟨Ao48, co48, eo48, _⟩ := TQ.Q_slice HO165.out; subst eo48) | ((with_reducible refine gate_builtin (b := .append) (xs := #[.tmp 80, .tmp 81]) rfl ?_); (try (refine gate_guard (by rfl) ?_; dsimp only)); at_builtin; refine Kd.R_append_rows (Kd.int .u8) (w0 := w) w.heap.size rfl (.tmp 80) (.tmp 81) 22 5 (.int .u8 0) 1 rfl Try.underlying22 info5 rfl (by decide) (by omega) (.slice Ao44 x4_3.length co44) x4_3 t163 _ _ _ (fun k_ => some k_ ≠ (v157 : Value).ownBlock ∧ some k_ ≠ (.slice Ao48 t163.length co48 : Value).ownBlock) (fun _ => False) rfl rfl ?aO ?aR (fun _ _ h => h) (fun _ h => h.elim) ?aF ?aB ?aS ?aL ?_; (case aR => repeat (first | exact (TQ.Q_reads' HO165.out).2.2 | (with_reducible refine Kd.C_alloc ?_ _) | (with_reducible refine Kd.C_drewN ?_ _) | (with_reducible refine Kd.C_drew ?_))); (case aB => exact (by repeat (first | (with_reducible first | exact HB.out | apply bA | apply bN | apply bD | refine bS ?_ GE152.out) | exact HB.out))); (case aF => exact (fun k_ hk => ⟨Kd.fresh' (Kd.R_lt (by (with_reducible repeat (first | apply Kd.R_alloc | apply Kd.R_drewN | apply Kd.R_drew)); exact HO158.out)) k_ hk, Kd.fresh' (TQ.Q_lt (by (with_reducible repeat (first | apply TQ.Q_alloc | apply TQ.Q_drewN | apply TQ.Q_drew)); exact HO165.out)) k_ hk⟩)); (case aO => exact (by (with_reducible repeat (first | apply Kd.R_alloc | apply Kd.R_drewN | apply Kd.R_drew)); exact Kd.R_mono HO_4.out (fun _ hk => ⟨hk.1.2, hk.2⟩))); (case aS => exact (below_size (by repeat (first | (with_reducible first | exact HB.out | apply bA | apply bN | apply bD | refine bS ?_ GE152.out) | exact HB.out)))); (case aL => have := LMc39.out; omega); intro v167 w47 ho hb hg hat; rw [← Ny166.out] at ho; have n0_ := Aside0.mk (blk_grown (g := gb152) (o := .cells #[.int .i64 ((rd_T54 l0 x5_1).f0), .int .i64 ((rd_T54 l0 x5_1).f1), .string ((rd_T54 l0 x5_1).f2)] 54 (0, 0)) (by (with_reducible repeat first | apply kN | apply kd | apply ka); exact BK152.out) hg (Kd.R_ne HO_4.out BK152.out (by decide))); have n1_ := Aside0.mk (Kd.R_after (ok := (fun k_ => some k_ ≠ (.slice Ao48 t163.length co48 : Value).ownBlock)) (by (with_reducible repeat (first | apply Kd.R_alloc | apply Kd.R_drewN | apply Kd.R_drew)); exact Kd.R_mono HO158.out (fun _ hk => ⟨hk.2, hk.1.2⟩)) hg hat); have n2_ := Aside0.mk (TQ.Q_after (ok := (fun k_ => some k_ ≠ (v157 : Value).ownBlock)) (by (with_reducible repeat (first | apply TQ.Q_alloc | apply TQ.Q_drewN | apply TQ.Q_drew)); exact TQ.Q_mono HO165.out (fun _ hk => ⟨hk.2, hk.1.2⟩)) hg hat); have n3_ := Aside0.mk (hb); have n4_ := Aside0.mk (ho); clear BK152; clear HO158; clear HO165; clear HB; clear HO_4; have BK152 := n0_; have HO158 := n1_; have HO165 := n2_; have HB := n3_; have HO168 := n4_; clear n0_ n1_ n2_ n3_ n4_; clear ho hb hg hat))
                 go_roundg k3
                 case measure => have := HK1.out; have := HJ3.out; have := HK3.out; omega
                 case rel => exact ⟨(y166), (wrap64 (x7_3 + 1)), (by first | rfl | (simp; done) | (simp [*]; done)), H', ⟨by have := HK1.out; have := HJ3.out; have := HK3.out; omega⟩, ⟨by (with_reducible repeat (first | apply Kd.R_alloc | apply Kd.R_drewN | apply Kd.R_drew)); exact Kd.R_mono HO168.out (fun _ hk => trivial)⟩, ⟨by (with_reducible repeat first | apply kN | apply kd | apply ka); exact BK152.out⟩, ⟨by repeat (first | (with_reducible first | exact HB.out | apply bA | apply bN | apply bD | refine bS ?_ GE152.out) | exact HB.out)⟩⟩
                ·rw [if_neg c39] at H
                 exact absurd H (by simp)
               ·rw [if_neg c37] at H
                exact absurd H (by simp)
              ·rw [if_neg c36] at H
               exact absurd H (by simp)
             ·rw [if_neg c34] at H
              have c34b0 : (((rd_T54 l0 x5_1).f0) == 2) = false := beq_eq_false_iff_ne.mpr c34
              have c34b1 : (((rd_T54 l0 x5_1).f0) != 2) = true := bne_iff_ne.mpr c34
              by_cases c49 : x4_3.length + y156.length < 140737488355328
              ·rw [if_pos c49] at H
               have LMc49 := Aside0.mk c49
               clear c49
               obtain ⟨y169, hy169⟩ : ∃ y_ : List Int, y_ = (x4_3 ++ y156) := ⟨_, rfl⟩
               replace H : (leveeref32_Blocks.l1 k3 l0 y169 x5_1 (wrap64 (x7_3 + 1)) ((rd_T54 l0 x5_1).f0) ((rd_T54 l0 x5_1).f1) ((rd_T54 l0 x5_1).f2)) = some (r1, r2) := by first | (rw [hy169]; with_reducible exact H) | (have H2_ := (Option.bind_some _ _).symm.trans H; rw [hy169]; with_reducible exact H2_) | (have H2_ := (Option.bind_some _ _).symm.trans H; with_reducible exact H2_) | with_reducible exact H | (rw [hy169]; exact H) | exact H
               have Ny169 := Aside0.mk hy169
               clear hy169
               have H' := Aside0.mk H
               clear H
               have q_ := cells3 BK152.out; have hcz50_0 := q_.c0; have hcz50_1 := q_.c1; have hcz50_2 := q_.c2; have hfz50_0 := q_.f0; have hfz50_1 := q_.f1; have hfz50_2 := q_.f2; clear q_
               go_wp2_with (first | ((with_reducible refine gate_dst (N := 70) rfl ?_); (try (refine gate_guard (by rfl) ?_; dsimp only)); refine Kd.R_make (Kd.int .u8) _ 5 rfl (N := 70) rfl 22 _ _ rfl 256 rfl rfl Try.underlying22 (.int .u8 0) 1 info5 rfl (by decide) (by omega) 0 (ok := fun _ => True) (okp := fun _ => True) rfl (fun _ hk => hk) trivial (by omega) (by omega) (Below.refl _ _) (Nat.le_refl _) ?_; intro v157 w51 ho52 hb hg_ hnew_; clear hg_ hnew_; (first | rw [← Ny156.out] at ho52 | (simp only [Int.reduceToNat] at ho52; rw [← Ny156.out] at ho52)); have n0_ := Aside0.mk (Kd.R_elder' (by (with_reducible repeat (first | apply Kd.R_alloc | apply Kd.R_drewN | apply Kd.R_drew)); exact HO_4.out) (Kd.R_base ho52) hb); have n1_ := Aside0.mk (Kd.R_lower (Kd.R_new' ho52 (Kd.R_lt (by (with_reducible repeat (first | apply Kd.R_alloc | apply Kd.R_drewN | apply Kd.R_drew)); exact HO_4.out))) (below_size (by repeat (first | (with_reducible first | exact HB.out | apply bA | apply bN | apply bD | refine bS ?_ GE152.out) | exact HB.out)))); have n2_ := Aside0.mk (blk_below (g := gb152) (o := .cells #[.int .i64 ((rd_T54 l0 x5_1).f0), .int .i64 ((rd_T54 l0 x5_1).f1), .string ((rd_T54 l0 x5_1).f2)] 54 (0, 0)) (by (with_reducible repeat first | apply kN | apply kd | apply ka); exact BK152.out) hb); have n3_ := Aside0.mk (below_step (by repeat (first | (with_reducible first | exact HB.out | apply bA | apply bN | apply bD | refine bS ?_ GE152.out) | exact HB.out)) hb); clear HO_4; clear BK152; clear HB; have HO_4 := n0_; have HO158 := n1_; have BK152 := n2_; have HB := n3_; clear n0_ n1_ n2_ n3_; clear hb ho52; have q_ := cells3 BK152.out; have hcz53_0 := q_.c0; have hcz53_1 := q_.c1; have hcz53_2 := q_.c2; have hfz53_0 := q_.f0; have hfz53_1 := q_.f1; have hfz53_2 := q_.f2; clear q_; obtain ⟨Ao55, co55, eo55⟩ := Kd.R_slice HO158.out; subst eo55) | ((with_reducible refine gate_builtin (b := .append) (xs := #[.tmp 80, .tmp 81]) rfl ?_); (try (refine gate_guard (by rfl) ?_; dsimp only)); at_builtin; refine Kd.R_append_rows (Kd.int .u8) (w0 := w) w.heap.size rfl (.tmp 80) (.tmp 81) 22 5 (.int .u8 0) 1 rfl Try.underlying22 info5 rfl (by decide) (by omega) u4 x4_3 y156 _ _ _ (fun k_ => some k_ ≠ (.slice Ao55 y156.length co55 : Value).ownBlock) (fun _ => False) rfl rfl ?aO ?aR (fun _ _ h => h) (fun _ h => h.elim) ?aF ?aB ?aS ?aL ?_; (case aR => repeat (first | exact (Kd.R_reads' HO158.out).2.2 | (with_reducible refine Kd.C_alloc ?_ _) | (with_reducible refine Kd.C_drewN ?_ _) | (with_reducible refine Kd.C_drew ?_))); (case aB => exact (by repeat (first | (with_reducible first | exact HB.out | apply bA | apply bN | apply bD | refine bS ?_ GE152.out) | exact HB.out))); (case aF => exact (fun k_ hk => Kd.fresh' (Kd.R_lt (by (with_reducible repeat (first | apply Kd.R_alloc | apply Kd.R_drewN | apply Kd.R_drew)); exact HO158.out)) k_ hk)); (case aO => exact (by (with_reducible repeat (first | apply Kd.R_alloc | apply Kd.R_drewN | apply Kd.R_drew)); exact Kd.R_mono HO_4.out (fun _ hk => hk.2))); (case aS => exact (below_size (by repeat (first | (with_reducible first | exact HB.out | apply bA | apply bN | apply bD | refine bS ?_ GE152.out) | exact HB.out)))); (case aL => have := LMc49.out; omega); intro v170 w54 ho hb hg hat; rw [← Ny169.out] at ho; have n0_ := Aside0.mk (blk_grown (g := gb152) (o := .cells #[.int .i64 ((rd_T54 l0 x5_1).f0), .int .i64 ((rd_T54 l0 x5_1).f1), .string ((rd_T54 l0 x5_1).f2)] 54 (0, 0)) (by (with_reducible repeat first | apply kN | apply kd | apply ka); exact BK152.out) hg (Kd.R_ne HO_4.out BK152.out (by decide))); have n1_ := Aside0.mk (Kd.R_after (ok := (fun _ => True)) (by (with_reducible repeat (first | apply Kd.R_alloc | apply Kd.R_drewN | apply Kd.R_drew)); exact HO158.out) hg hat); have n2_ := Aside0.mk (hb); have n3_ := Aside0.mk (ho); clear BK152; clear HO158; clear HB; clear HO_4; have BK152 := n0_; have HO158 := n1_; have HB := n2_; have HO171 := n3_; clear n0_ n1_ n2_ n3_; clear ho hb hg hat))
               go_roundg k3
               case measure => have := HK1.out; have := HJ3.out; have := HK3.out; omega
               case rel => exact ⟨(y169), (wrap64 (x7_3 + 1)), (by first | rfl | (simp; done) | (simp [*]; done)), H', ⟨by have := HK1.out; have := HJ3.out; have := HK3.out; omega⟩, ⟨by (with_reducible repeat (first | apply Kd.R_alloc | apply Kd.R_drewN | apply Kd.R_drew)); exact Kd.R_mono HO171.out (fun _ hk => trivial)⟩, ⟨by (with_reducible repeat first | apply kN | apply kd | apply ka); exact BK152.out⟩, ⟨by repeat (first | (with_reducible first | exact HB.out | apply bA | apply bN | apply bD | refine bS ?_ GE152.out) | exact HB.out)⟩⟩
              ·rw [if_neg c49] at H
               exact absurd H (by simp)
            ·rw [if_neg c33] at H
             exact absurd H (by simp)
           ·rw [if_neg c32] at H
            have c32b0 : decide (x7_3 < ((rd_T54 l0 x5_1).f1)) = false := decide_eq_false c32
            clear c32
            have H' := Aside0.mk H
            clear H
            have q_ := cells3 BK152.out; have hcz56_0 := q_.c0; have hcz56_1 := q_.c1; have hcz56_2 := q_.c2; have hfz56_0 := q_.f0; have hfz56_1 := q_.f1; have hfz56_2 := q_.f2; clear q_
            go_wp2
            go_roundg k3
            case measure => have := HK1.out; have := HJ3.out; have := HK3.out; omega
            case rel => exact ⟨(x4_3), (wrap64 (x5_1 + 1)), (by first | rfl | (simp; done) | (simp [*]; done)), H', ⟨by have := HK1.out; have := HJ3.out; have := HK3.out; omega⟩, ⟨by (with_reducible repeat (first | apply Kd.R_alloc | apply Kd.R_drewN | apply Kd.R_drew)); exact HO_4.out⟩, ⟨by repeat (first | (with_reducible first | exact HB.out | apply bA | apply bN | apply bD | refine bS ?_ GE152.out) | exact HB.out)⟩⟩
    ·rw [if_neg c3] at H
     exact absurd H (by simp)
   ·rw [if_neg c2] at H
    have c2b0 : decide (x5_1 < (l0.length : Int)) = false := decide_eq_false c2
    clear c2
    replace H := Option.bind_eq_some_iff.mp H
    obtain ⟨⟨t172, t173⟩, A570, H⟩ := H
    replace H : (if t173 = 0 then ((leveeref32_SameRows.f k1 l0 t172).bind fun t176 => (if t176 = true then (some (x4_1, 0)) else (some (([] : List Int), 1)))) else (some (([] : List Int), 1))) = some (r1, r2) := H
    have A57 := Aside0.mk A570
    clear A570
    by_cases c58 : t173 = 0
    ·rw [if_pos c58] at H
     have c58b0 : (t173 == 0) = true := beq_iff_eq.mpr c58
     have c58b1 : (t173 != 0) = false := bne_eq_false_iff_eq.mpr c58
     clear c58
     replace H := Option.bind_eq_some_iff.mp H
     obtain ⟨t176, A590, H⟩ := H
     replace H : (if t176 = true then (some (x4_1, 0)) else (some (([] : List Int), 1))) = some (r1, r2) := H
     have A59 := Aside0.mk A590
     clear A590
     by_cases c60 : t176 = true
     ·subst c60
      have H1 : (some (x4_1, 0)) = some (r1, r2) := by rw [if_pos rfl] at H; exact H
      clear H
      have H := H1
      clear H1
      simp only [Option.some.injEq, Prod.mk.injEq] at H
      obtain ⟨rfl, rfl⟩ := H
      obtain ⟨Ao61, co61, eo61⟩ := Kd.R_slice HO_4.out
      subst eo61
      go_wp2_with (first | ((with_reducible refine gate_callee (f := 10) rfl ?_); refine goesL_ (some 85) rfl rfl Try.func10 (by kernel_rfl) rfl #[.slice Ao61 x4_1.length co61] rfl (by (try simp only [List.map_toArray, List.map_cons, List.map_nil]); first | done | rfl | (simp only [List.length_drop, List.length_take]; rfl)) ?_; (with_reducible refine (leveeref32_Rows.calls k1 _ _ x4_1 t172 t173 _ ?side1 ?side2 A57.out).mono ?_); (case side1 => repeat (first | exact (Kd.R_reads' HO_4.out).2.2 | (with_reducible refine Kd.C_alloc ?_ _) | (with_reducible refine Kd.C_drewN ?_ _) | (with_reducible refine Kd.C_drew ?_))); (case side2 => exact (Kd.R_reads' HO_4.out).2.1); rintro e w62 ⟨v174, rfl, ho0, hb⟩; refine ⟨_, rfl, ?_⟩; have n0_ := Aside0.mk (Kd.R_below (by (with_reducible repeat (first | apply Kd.R_alloc | apply Kd.R_drewN | apply Kd.R_drew)); exact HO_4.out) hb); have n1_ := Aside0.mk (Kd.R_lower ho0 (below_size (by repeat (first | (with_reducible first | exact HB.out | apply bA | apply bN | apply bD) | exact HB.out)))); have n2_ := Aside0.mk (below_step (by repeat (first | (with_reducible first | exact HB.out | apply bA | apply bN | apply bD) | exact HB.out)) hb); clear HO_4; clear HB; have HO_4 := n0_; have HO175 := n1_; have HB := n2_; clear n0_ n1_ n2_; (try clear hb); (try clear hb2); (try clear hk); (try clear hi); (try clear ho0); obtain ⟨Ao63, co63, eo63⟩ := Kd.R_slice HO175.out; subst eo63) | (go_at_call 11; (with_reducible refine (leveeref32_SameRows.calls k1 _ _ l0 _ _ t172 true _ ?side1 ?side2 ?side3 ?side4 A59.out).mono ?_); (case side1 => repeat (first | exact (Kd.C_below HR0.out HB.out) | (with_reducible refine Kd.C_alloc ?_ _) | (with_reducible refine Kd.C_drewN ?_ _) | (with_reducible refine Kd.C_drew ?_))); (case side2 => exact HC0.out); (case side3 => repeat (first | exact (Kd.R_reads' HO175.out).2.2 | (with_reducible refine Kd.C_alloc ?_ _) | (with_reducible refine Kd.C_drewN ?_ _) | (with_reducible refine Kd.C_drew ?_))); (case side4 => exact (Kd.R_reads' HO175.out).2.1); rintro e w' ⟨rfl, ⟨nd, rfl⟩⟩))
      go_ret2
      exact ⟨_, by first | rfl | (simp [errW_none, errW_some] <;> rfl) | (simp [*, errW_none, errW_some] <;> rfl), by (with_reducible repeat (first | apply Kd.R_alloc | apply Kd.R_drewN | apply Kd.R_drew)); exact HO_4.out, by repeat (first | (with_reducible first | exact HB.out | apply bA | apply bN | apply bD) | exact HB.out)⟩
     ·replace c60 := Bool.eq_false_iff.mpr c60
      subst c60
      have H1 : (some (([] : List Int), 1)) = some (r1, r2) := by rw [if_neg (show ¬ (false = true) by decide)] at H; exact H
      clear H
      have H := H1
      clear H1
      simp only [Option.some.injEq, Prod.mk.injEq] at H
      obtain ⟨rfl, rfl⟩ := H
      obtain ⟨Ao64, co64, eo64⟩ := Kd.R_slice HO_4.out
      subst eo64
      go_wp2_with (first | ((with_reducible refine gate_callee (f := 10) rfl ?_); refine goesL_ (some 85) rfl rfl Try.func10 (by kernel_rfl) rfl #[.slice Ao64 x4_1.length co64] rfl (by (try simp only [List.map_toArray, List.map_cons, List.map_nil]); first | done | rfl | (simp only [List.length_drop, List.length_take]; rfl)) ?_; (with_reducible refine (leveeref32_Rows.calls k1 _ _ x4_1 t172 t173 _ ?side1 ?side2 A57.out).mono ?_); (case side1 => repeat (first | exact (Kd.R_reads' HO_4.out).2.2 | (with_reducible refine Kd.C_alloc ?_ _) | (with_reducible refine Kd.C_drewN ?_ _) | (with_reducible refine Kd.C_drew ?_))); (case side2 => exact (Kd.R_reads' HO_4.out).2.1); rintro e w65 ⟨v174, rfl, ho0, hb⟩; refine ⟨_, rfl, ?_⟩; have n0_ := Aside0.mk (Kd.R_below (by (with_reducible repeat (first | apply Kd.R_alloc | apply Kd.R_drewN | apply Kd.R_drew)); exact HO_4.out) hb); have n1_ := Aside0.mk (Kd.R_lower ho0 (below_size (by repeat (first | (with_reducible first | exact HB.out | apply bA | apply bN | apply bD) | exact HB.out)))); have n2_ := Aside0.mk (below_step (by repeat (first | (with_reducible first | exact HB.out | apply bA | apply bN | apply bD) | exact HB.out)) hb); clear HO_4; clear HB; have HO_4 := n0_; have HO175 := n1_; have HB := n2_; clear n0_ n1_ n2_; (try clear hb); (try clear hb2); (try clear hk); (try clear hi); (try clear ho0); obtain ⟨Ao66, co66, eo66⟩ := Kd.R_slice HO175.out; subst eo66) | (go_at_call 11; (with_reducible refine (leveeref32_SameRows.calls k1 _ _ l0 _ _ t172 false _ ?side1 ?side2 ?side3 ?side4 A59.out).mono ?_); (case side1 => repeat (first | exact (Kd.C_below HR0.out HB.out) | (with_reducible refine Kd.C_alloc ?_ _) | (with_reducible refine Kd.C_drewN ?_ _) | (with_reducible refine Kd.C_drew ?_))); (case side2 => exact HC0.out); (case side3 => repeat (first | exact (Kd.R_reads' HO175.out).2.2 | (with_reducible refine Kd.C_alloc ?_ _) | (with_reducible refine Kd.C_drewN ?_ _) | (with_reducible refine Kd.C_drew ?_))); (case side4 => exact (Kd.R_reads' HO175.out).2.1); rintro e w' ⟨rfl, ⟨nd, rfl⟩⟩))
      go_ret2
      exact ⟨_, by first | rfl | (simp [errW_none, errW_some] <;> rfl) | (simp [*, errW_none, errW_some] <;> rfl), by first | exact Kd.R_nil _ _ _ _ _ | exact Kd.N_nil _ _ _ _ _ | exact Kd.V_nil _ _ _ _ _ | exact TQ.Q_nil _ _ _ _ _ | exact Kd.S_nil _ _ _ _ _, by repeat (first | (with_reducible first | exact HB.out | apply bA | apply bN | apply bD) | exact HB.out)⟩
    ·rw [if_neg c58] at H
     have c58b0 : (t173 == 0) = false := beq_eq_false_iff_ne.mpr c58
     have c58b1 : (t173 != 0) = true := bne_iff_ne.mpr c58
     simp only [Option.some.injEq, Prod.mk.injEq] at H
     obtain ⟨rfl, rfl⟩ := H
     obtain ⟨Ao67, co67, eo67⟩ := Kd.R_slice HO_4.out
     subst eo67
     go_wp2_with (first | ((with_reducible refine gate_callee (f := 10) rfl ?_); refine goesL_ (some 85) rfl rfl Try.func10 (by kernel_rfl) rfl #[.slice Ao67 x4_1.length co67] rfl (by (try simp only [List.map_toArray, List.map_cons, List.map_nil]); first | done | rfl | (simp only [List.length_drop, List.length_take]; rfl)) ?_; (with_reducible refine (leveeref32_Rows.calls k1 _ _ x4_1 t172 t173 _ ?side1 ?side2 A57.out).mono ?_); (case side1 => repeat (first | exact (Kd.R_reads' HO_4.out).2.2 | (with_reducible refine Kd.C_alloc ?_ _) | (with_reducible refine Kd.C_drewN ?_ _) | (with_reducible refine Kd.C_drew ?_))); (case side2 => exact (Kd.R_reads' HO_4.out).2.1); rintro e w68 ⟨v174, rfl, ho0, hb⟩; refine ⟨_, rfl, ?_⟩; have n0_ := Aside0.mk (Kd.R_below (by (with_reducible repeat (first | apply Kd.R_alloc | apply Kd.R_drewN | apply Kd.R_drew)); exact HO_4.out) hb); have n1_ := Aside0.mk (Kd.R_lower ho0 (below_size (by repeat (first | (with_reducible first | exact HB.out | apply bA | apply bN | apply bD) | exact HB.out)))); have n2_ := Aside0.mk (below_step (by repeat (first | (with_reducible first | exact HB.out | apply bA | apply bN | apply bD) | exact HB.out)) hb); clear HO_4; clear HB; have HO_4 := n0_; have HO175 := n1_; have HB := n2_; clear n0_ n1_ n2_; (try clear hb); (try clear hb2); (try clear hk); (try clear hi); (try clear ho0)))
     go_ret2
     exact ⟨_, by first | rfl | (simp [errW_none, errW_some] <;> rfl) | (simp [*, errW_none, errW_some] <;> rfl), by first | exact Kd.R_nil _ _ _ _ _ | exact Kd.N_nil _ _ _ _ _ | exact Kd.V_nil _ _ _ _ _ | exact TQ.Q_nil _ _ _ _ _ | exact Kd.S_nil _ _ _ _ _, by repeat (first | (with_reducible first | exact HB.out | apply bA | apply bN | apply bD) | exact HB.out)⟩

end Go.Proofs.Ytnlneiiccoakjaa.P
