/-
The contract of inode.Within, by hand: over the print's, and over a map of numbers.
Conditions: none.
-/
import Derived.Test.YthcndfnmgggblaaProg
import Derived.Below
import Derived.Deep.Draws
import Derived.Deep.AppendLies
import Derived.Maps.AppendAt
import Derived.OwnWalk
import Derived.Laws.BytesArg
import Derived.Laws.MakeOwn
import Derived.Laws.OwnMore
import Derived.Deep.OwnRows
import Derived.Tactics
import Derived.Lib.ConvBytes
import Derived.Laws.Slices
import Derived.WalkKit
import Derived.KernelRfl
import Derived.RowKit3
import Derived.Deep.LoopGhost
import Derived.Deep.QuietTactic
import Derived.BigQuiet
import Derived.WideLaws
import Derived.Deep.DeepCutAuto
import Derived.Deep.CutBlock
import Derived.Deep.RegionHeld3
import Derived.Laws.Rows
import Derived.Lib.AppendStr
import Derived.ArgAppend
import Derived.Laws.IdiomCopy
import Derived.OrdersHeld
import Derived.Laws.BitsLemmas
import Derived.RowKit
import Derived.Test.YthcndfnmgggblaaWWords
import Derived.Test.YthcndfnmgggblaaWLast
import Derived.Test.YthcndfnmgggblaaWTab
import Derived.Test.YthcndfnmgggblaaWFour
import Derived.Test.YthcndfnmgggblaaWQPut
import Derived.Test.YthcndfnmgggblaaWApart
import Derived.Test.YthcndfnmgggblaaWArr
import Derived.Test.YthcndfnmgggblaaWZeros
import Derived.Test.YthcndfnmgggblaaWFoot
import Derived.Test.YthcndfnmgggblaaWKept
import Derived.Test.YthcndfnmgggblaaWShare
import Derived.Test.YthcndfnmgggblaaWN
import Derived.Test.YthcndfnmgggblaaWFootNe
import Derived.Test.YthcndfnmgggblaaWAt
import Derived.Test.YthcndfnmgggblaaWEqStruct
import Derived.Test.YthcndfnmgggblaaWRepsOne
import Derived.Test.YthcndfnmgggblaaWInv
import Derived.Test.YthcndfnmgggblaaWInvWords
import Derived.Test.YthcndfnmgggblaaWGuard
import Derived.Test.YthcndfnmgggblaaWNEv
import Derived.Test.YthcndfnmgggblaaWMore
import Derived.Test.YthcndfnmgggblaaHandMap
import Derived.Test.YthcndfnmgggblaaHandInode
import Derived.Test.YthcndfnmgggblaaPx12
import Derived.Test.YthcndfnmgggblaaPx22
import Derived.Test.YthcndfnmgggblaaPx20
namespace Go.Proofs.Ythcndfnmgggblaa.P
open Go.RowKit Go.Proofs.YthcndfnmgggblaaW.PrintWords Go.Proofs.YthcndfnmgggblaaW.PrintLast Go.Proofs.YthcndfnmgggblaaW.PrintMore
attribute [local go_sem] max2_int min2_int max_two min_two max_three min_three max_four min_four
set_option linter.unusedVariables false
set_option linter.unusedSimpArgs false
theorem map_event {P : Program} {ops : Array Oper} {rest : List Oper} {o : Oper} {a : Act} {Q : Exit → Act → World → Prop} {W w1 : World} (hgd : o.guard = none) (hN : o.dst = none)
    (hrun : (execOp a.eval o).run P W = .ok .skip w1) (h : ∀ w', w' = w1 → wpList P ops Q rest a w') : wpList P ops Q (o :: rest) a W := by
  refine wpList_plain hgd fun K hK => ?_
  unfold Oper.wp
  rw [hrun]
  show K (a.put o.dst undef) w1
  rw [hN]
  exact hK _ _ (h _ rfl)
/-- Are all of these data blocks, none met twice? -/
def withinS (k : Nat) (g0 g1 g2 : Int) : List Int → List Int → Option Bool
  | [], _ => geo_Right.f k g0 g1 g2
  | n :: l, met => (geo_Kind.f k g0 g1 g2 n).bind fun t => if t.1 = 4 then (if n ∈ met then some false else withinS k g0 g1 g2 l (met ++ [n])) else some false
set_option maxRecDepth 100000 in
theorem within_any (k : Nat) (a0_0 a0_1 a0_2 a1_0 a1_1 a1_2 a1_3 a1_4 a1_5 a1_6 a1_7 a1_8 a1_9 a1_10 a1_11 : Int) (l : List Int) (r : Bool) (w : World) (hN : inode_Names.f k a1_0 a1_1 a1_2 a1_3 a1_4 a1_5 a1_6 a1_7 a1_8 a1_9 a1_10 a1_11 = some l) (hW : withinS k a0_0 a0_1 a0_2 l [] = some r) (hl : l.length ≤ 140737488355328) :
    Calls Try.prog 25 #[.agg #[.int .i64 a0_0, .int .i64 a0_1, .int .i64 a0_2], .agg #[.int .i64 a1_0, .int .i64 a1_1, .int .i64 a1_2, .int .i64 a1_3, .int .i64 a1_4, .int .i64 a1_5, .int .i64 a1_6, .int .i64 a1_7, .int .i64 a1_8, .int .i64 a1_9, .int .i64 a1_10, .int .i64 a1_11]] w fun e w' => e = .returned (.bool r) ∧ Below w.heap.size w w' := by
  have HN := Aside0.mk hN
  have HW := Aside0.mk hW
  clear hN hW
  have hz : ∀ W : World, (zeroValue 4).run Try.prog W = .ok (.bool false) W := fun W => by rfl
  have HZ := Aside0.mk hz
  clear hz
  go_enter Try.func25, Try.ntmps25
  go_wp2_with (first
    | ((with_reducible refine gate_dst (N := 2) rfl ?_); refine box_event ?hg (N := 2) ?hd (cs := #[.int .i64 a0_0, .int .i64 a0_1, .int .i64 a0_2]) (t := 41) ?hr ?_; (case hd => rfl); (case hg => rfl); (case hr => first | (go_simp; done) | (go_simp; rfl)); intro g1 hg1 w1 hx1 hb1
       have HX1 := Aside0.mk hx1; have HB1 := Aside0.mk hb1; have HG1 := Aside0.mk hg1; clear hx1 hb1 hg1)
    | ((with_reducible refine gate_dst (N := 3) rfl ?_); refine box_event ?hg (N := 3) ?hd (cs := #[.int .i64 a1_0, .int .i64 a1_1, .int .i64 a1_2, .int .i64 a1_3, .int .i64 a1_4, .int .i64 a1_5, .int .i64 a1_6, .int .i64 a1_7, .int .i64 a1_8, .int .i64 a1_9, .int .i64 a1_10, .int .i64 a1_11]) (t := 24) ?hr ?_; (case hd => rfl); (case hg => rfl); (case hr => first | (go_simp; done) | (go_simp; rfl)); intro g2 hg2 w2 hx2 hb2
       have HX2 := Aside0.mk hx2; have HB2 := Aside0.mk hb2; have HG2 := Aside0.mk hg2; clear hx2 hb2 hg2)
    | ((with_reducible refine gate_dst (N := 10) rfl ?_); refine Kd.event_run rfl (W := w2) (w1 := w2.alloc (.map #[] 0)) (v := .map (some w2.heap.size)) ?hr ?_; (case hr => first | (go_simp; done) | (go_simp; rfl))
       obtain ⟨gm, hgm⟩ : ∃ g, g = w2.heap.size := ⟨_, rfl⟩
       obtain ⟨w3, hw3⟩ : ∃ v, v = w2.alloc (.map #[] 0) := ⟨_, rfl⟩
       have hm := blk_new w2 (.map #[] 0)
       have hb3 := below_alloc (Below.refl _ w2) (.map #[] 0)
       rw [← hw3] at hm hb3
       rw [← hgm] at hm
       rw [← hw3, ← hgm]
       have hx := blk_below HX2.out hb3
       have hy := blk_below (blk_below HX1.out HB2.out) hb3
       have c0 : w3.cell? ⟨g2, 0, none⟩ = some (.int .i64 a1_0) := (blk_cell hx 0).trans rfl
       have c1 : w3.cell? ⟨g2, 1, none⟩ = some (.int .i64 a1_1) := (blk_cell hx 1).trans rfl
       have c2 : w3.cell? ⟨g2, 2, none⟩ = some (.int .i64 a1_2) := (blk_cell hx 2).trans rfl
       have c3 : w3.cell? ⟨g2, 3, none⟩ = some (.int .i64 a1_3) := (blk_cell hx 3).trans rfl
       have c4 : w3.cell? ⟨g2, 4, none⟩ = some (.int .i64 a1_4) := (blk_cell hx 4).trans rfl
       have c5 : w3.cell? ⟨g2, 5, none⟩ = some (.int .i64 a1_5) := (blk_cell hx 5).trans rfl
       have c6 : w3.cell? ⟨g2, 6, none⟩ = some (.int .i64 a1_6) := (blk_cell hx 6).trans rfl
       have c7 : w3.cell? ⟨g2, 7, none⟩ = some (.int .i64 a1_7) := (blk_cell hx 7).trans rfl
       have c8 : w3.cell? ⟨g2, 8, none⟩ = some (.int .i64 a1_8) := (blk_cell hx 8).trans rfl
       have c9 : w3.cell? ⟨g2, 9, none⟩ = some (.int .i64 a1_9) := (blk_cell hx 9).trans rfl
       have c10 : w3.cell? ⟨g2, 10, none⟩ = some (.int .i64 a1_10) := (blk_cell hx 10).trans rfl
       have c11 : w3.cell? ⟨g2, 11, none⟩ = some (.int .i64 a1_11) := (blk_cell hx 11).trans rfl
       have HM := Aside0.mk hm; have HY := Aside0.mk hy; have HB := Aside0.mk (below_step (below_step HB1.out HB2.out) hb3)
       have L := Aside0.mk (show g1 < gm ∧ gm < w3.heap.size ∧ w.heap.size ≤ gm by
         have e1 := blk_lt HX1.out; have e2 := HB2.out.size; have e3 := blk_lt hm; have e4 := HB1.out.size; omega)
       clear hm hx hy hb3 hw3 hgm HX1 HX2 HB1 HB2 HG1 HG2)
    | (go_at_call 23; go_loud (refine (inode_Names.calls k a1_0 a1_1 a1_2 a1_3 a1_4 a1_5 a1_6 a1_7 a1_8 a1_9 a1_10 a1_11 l _ HN.out).mono ?_; rintro e w4 ⟨v12, rfl, ho, hb4⟩; have HO := Aside0.mk (Kd.R_tight rfl ho); have hm := blk_below HM.out hb4; have hy := blk_below HY.out hb4; have hb := below_step HB.out hb4; clear HM HY HB ho hb4; have HM := Aside0.mk hm; have HY := Aside0.mk hy; have HB := Aside0.mk hb; clear hm hy hb c0 c1 c2 c3 c4 c5 c6 c7 c8 c9 c10 c11; obtain ⟨Ao, co, eo⟩ := Kd.R_slice HO.out; subst eo)))
  have HL := Aside0.mk hl
  clear hl
  go_loopw [14] (fun v14 wr => ∃ i : Nat, i ≤ l.length ∧ v14 = .int .i64 i ∧ Aside0 (withinS k a0_0 a0_1 a0_2 (l.drop i) (l.take i) = some r) ∧ Aside0 (∃ es cl, wr.heap[gm]? = some (.map es cl) ∧ MapOf es (l.take i)) ∧ Aside0 (wr.heap[g1]? = some (.cells #[.int .i64 a0_0, .int .i64 a0_1, .int .i64 a0_2] 41 (0, 0))) ∧ Aside0 (Kd.R (Kd.int .i64) 3 wr w3.heap.size (fun k_ => some k_ = (.slice Ao l.length co : Value).ownBlock) (.slice Ao l.length co) l) ∧ Aside0 (Below w.heap.size w wr)) (fun v14 _ => l.length - (intOf v14).toNat)
  case atStart => exact ⟨0, by omega, rfl, HW, ⟨_, _, HM.out, rfl⟩, HY, HO, HB⟩
  case round =>
    clear HW HM HY HO HB
    obtain ⟨i, hi, rfl, HW, HM, HY, HO, HB⟩ := hrel
    by_cases hlt : i < l.length
    · obtain ⟨ad, e1, hx⟩ := Kd.at_int (Kd.R_reads' HO.out).2.2 (i : Int) (by omega) (by omega)
      subst e1
      rw [Int.toNat_natCast] at hx
      obtain ⟨n, hn⟩ : ∃ n, n = rd l (i : Int) := ⟨_, rfl⟩
      have hne : n = l[i] := by rw [hn]; simp [rd, hlt]
      rw [← hn] at hx
      have hw := HW.out
      rw [List.drop_eq_getElem_cons hlt, ← hne] at hw
      simp only [withinS] at hw
      obtain ⟨t, ht, hw⟩ := Option.bind_eq_some_iff.mp hw
      obtain ⟨t1, t2⟩ := t
      have HT := Aside0.mk ht
      have hd0 : wr.cell? ⟨g1, 0, none⟩ = some (.int .i64 a0_0) := (blk_cell HY.out 0).trans rfl
      have hd1 : wr.cell? ⟨g1, 1, none⟩ = some (.int .i64 a0_1) := (blk_cell HY.out 1).trans rfl
      have hd2 : wr.cell? ⟨g1, 2, none⟩ = some (.int .i64 a0_2) := (blk_cell HY.out 2).trans rfl
      have htk : l.take (i + 1) = l.take i ++ [n] := by rw [List.take_succ_eq_append_getElem hlt, hne]
      have HTK := Aside0.mk htk
      clear hn hne ht htk HW
      dsimp only at hw
      by_cases c4 : t1 = 4
      · rw [if_pos c4] at hw
        have c4a : (t1 == 4) = true := beq_iff_eq.mpr c4
        have c4b : (t1 != 4) = false := bne_eq_false_iff_eq.mpr c4
        clear c4
        by_cases cm : n ∈ l.take i
        · rw [if_pos cm] at hw
          obtain rfl := Option.some.inj hw
          have CM := Aside0.mk cm
          clear hw cm
          go_wp2_with (go_at_call 37; refine (geo_Kind.calls k a0_0 a0_1 a0_2 n t1 t2 _ HT.out).mono ?_; rintro e w5 ⟨rfl, hb⟩; obtain ⟨es, cl, hm, hmo⟩ := HM.out; have hlk := map_lookup (w := w5) Try.underlying56 Try.underlying3 (HZ.out w5) (blk_below hm hb) hmo n; rw [decide_eq_true CM.out] at hlk; have HB5 := Aside0.mk (below_step HB.out hb); clear hm hmo hb HM HB)
          go_ret
          exact ⟨rfl, HB5.out⟩
        · rw [if_neg cm, ← HTK.out] at hw
          have HW := Aside0.mk hw
          have CM := Aside0.mk cm
          clear hw cm
          go_wp2_with (first
            | (go_at_call 37; go_loud (refine (geo_Kind.calls k a0_0 a0_1 a0_2 n t1 t2 _ HT.out).mono ?_; rintro e w5 ⟨rfl, hb⟩)
               obtain ⟨es, cl, hm, hmo⟩ := HM.out
               have hm5 := blk_below hm hb
               have hlk := map_lookup (w := w5) Try.underlying56 Try.underlying3 (HZ.out w5) hm5 hmo n
               rw [decide_eq_false CM.out] at hlk
               obtain ⟨hup, hmo2⟩ := map_update (w := w5) Try.underlying56 Try.underlying3 hm5 hmo n CM.out
               have HB5 := Aside0.mk (below_step HB.out hb)
               have HY5 := Aside0.mk (blk_below HY.out hb)
               have HO5 := Aside0.mk (Kd.R_below HO.out hb)
               have HMO := Aside0.mk hmo2
               have HM5 := Aside0.mk hm5
               clear hm hmo hb HM HB HY HO hm5 hmo2 hd0 hd1 hd2 hx)
            | (refine map_event rfl rfl (W := w5) (w1 := { w5 with heap := w5.heap.setIfInBounds gm (.map (es.push ⟨.int .i64 n, .bool true, cl⟩) (cl + 1)) }) ?hr ?_; (case hr => first | (go_simp; done) | (go_simp; rfl)); intro w6 hw6
               have q1 : w6.heap[gm]? = some (.map (es.push ⟨.int .i64 n, .bool true, cl⟩) (cl + 1)) := by rw [hw6]; simp [blk_lt HM5.out]
               have q2 : ∀ j, j ≠ gm → w6.heap[j]? = w5.heap[j]? := fun j hj => by rw [hw6]; simp [Array.getElem?_setIfInBounds, Ne.symm hj]
               have q3 : Below w.heap.size w w6 := by
                 exact below_weaken HB5.out L.out.2.2 ⟨by rw [hw6], by rw [hw6], by rw [hw6], by rw [hw6]; simp, fun k_ hk_ => q2 k_ (Nat.ne_of_lt hk_)⟩
               have Q1 := Aside0.mk q1; have Q2 := Aside0.mk q2; have Q3 := Aside0.mk q3
               clear q1 q2 q3 hw6 hup))
          go_roundw
          case rel =>
            refine ⟨i + 1, by omega, ?_, ⟨HW.out⟩, ⟨_, _, Q1.out, ?_⟩, ⟨(Q2.out g1 (by have := L.out; omega)).trans HY5.out⟩, ⟨Kd.R_step HO5.out ?_⟩, Q3⟩
            · rw [show wrap64 ((i : Int) + 1) = ((i + 1 : Nat) : Int) by have := HL.out; unfold wrap64; omega]
            · rw [HTK.out]; exact HMO.out
            · intro j hj hlt2
              refine Q2.out j ?_
              have h1 := Kd.R_base HO5.out j hj.symm
              have h2 := L.out
              omega
          case measure =>
            have h1 := HL.out
            rw [show wrap64 ((i : Int) + 1) = ((i + 1 : Nat) : Int) by unfold wrap64; omega]
            show l.length - (((i + 1 : Nat) : Int)).toNat < l.length - ((i : Int)).toNat
            omega
      · rw [if_neg c4] at hw
        obtain rfl := Option.some.inj hw
        have c4a : (t1 == 4) = false := beq_eq_false_iff_ne.mpr c4
        have c4b : (t1 != 4) = true := bne_iff_ne.mpr c4
        clear c4 hw
        go_wp2_with (go_at_call 37; refine (geo_Kind.calls k a0_0 a0_1 a0_2 n t1 t2 _ HT.out).mono ?_; rintro e w5 ⟨rfl, hb⟩; have HB5 := Aside0.mk (below_step HB.out hb); clear hb)
        go_ret
        exact ⟨rfl, HB5.out⟩
    · obtain rfl : i = l.length := by omega
      have hw := HW.out
      rw [List.drop_length] at hw
      simp only [withinS] at hw
      have HR := Aside0.mk hw
      clear hw HW
      have hd0 : wr.cell? ⟨g1, 0, none⟩ = some (.int .i64 a0_0) := (blk_cell HY.out 0).trans rfl
      have hd1 : wr.cell? ⟨g1, 1, none⟩ = some (.int .i64 a0_1) := (blk_cell HY.out 1).trans rfl
      have hd2 : wr.cell? ⟨g1, 2, none⟩ = some (.int .i64 a0_2) := (blk_cell HY.out 2).trans rfl
      go_wp2_with (go_at_call 38; refine (geo_Right.calls k a0_0 a0_1 a0_2 r _ HR.out).mono ?_; rintro e w5 ⟨rfl, hb⟩; have HB5 := Aside0.mk (below_step HB.out hb); clear hb)
      go_ret
      exact ⟨rfl, HB5.out⟩
theorem Within_mono (k : Nat) (g0 g1 g2 : Int) : ∀ (l met : List Int), LeO (withinS k g0 g1 g2 l met) (withinS (k + 1) g0 g1 g2 l met)
  | [], _ => geo_Right.mono _ _ _ _
  | n :: l, met => by
    unfold withinS
    refine LeO.bind (geo_Kind.mono _ _ _ _ _) (fun t => ?_)
    refine LeO.ite ?_ (LeO.refl _)
    refine LeO.ite (LeO.refl _) (Within_mono k g0 g1 g2 l _)
def inode_Within.f (k : Nat) (a0_0 a0_1 a0_2 a1_0 a1_1 a1_2 a1_3 a1_4 a1_5 a1_6 a1_7 a1_8 a1_9 a1_10 a1_11 : Int) : Option Bool := (inode_Names.f k a1_0 a1_1 a1_2 a1_3 a1_4 a1_5 a1_6 a1_7 a1_8 a1_9 a1_10 a1_11).bind fun l => if l.length ≤ 140737488355328 then withinS k a0_0 a0_1 a0_2 l [] else none
theorem inode_Within.mono : ∀ a0_0 a0_1 a0_2 a1_0 a1_1 a1_2 a1_3 a1_4 a1_5 a1_6 a1_7 a1_8 a1_9 a1_10 a1_11 k, LeO (inode_Within.f k a0_0 a0_1 a0_2 a1_0 a1_1 a1_2 a1_3 a1_4 a1_5 a1_6 a1_7 a1_8 a1_9 a1_10 a1_11) (inode_Within.f (k + 1) a0_0 a0_1 a0_2 a1_0 a1_1 a1_2 a1_3 a1_4 a1_5 a1_6 a1_7 a1_8 a1_9 a1_10 a1_11) := by
  intros
  unfold inode_Within.f
  refine LeO.bind (inode_Names.mono _ _ _ _ _ _ _ _ _ _ _ _ _) (fun l => ?_)
  exact LeO.ite (Within_mono _ _ _ _ _ _) (LeO.refl _)
theorem inode_Within.calls (k : Nat) (a0_0 a0_1 a0_2 a1_0 a1_1 a1_2 a1_3 a1_4 a1_5 a1_6 a1_7 a1_8 a1_9 a1_10 a1_11 : Int) (r : Bool) (w : World) (h : inode_Within.f k a0_0 a0_1 a0_2 a1_0 a1_1 a1_2 a1_3 a1_4 a1_5 a1_6 a1_7 a1_8 a1_9 a1_10 a1_11 = some r) :
    Calls Try.prog 25 #[.agg #[.int .i64 a0_0, .int .i64 a0_1, .int .i64 a0_2], .agg #[.int .i64 a1_0, .int .i64 a1_1, .int .i64 a1_2, .int .i64 a1_3, .int .i64 a1_4, .int .i64 a1_5, .int .i64 a1_6, .int .i64 a1_7, .int .i64 a1_8, .int .i64 a1_9, .int .i64 a1_10, .int .i64 a1_11]] w fun e w' => e = .returned (.bool r) ∧ Below w.heap.size w w' := by
  unfold inode_Within.f at h
  obtain ⟨l, hN, h⟩ := Option.bind_eq_some_iff.mp h
  by_cases hl : l.length ≤ 140737488355328
  · rw [if_pos hl] at h
    exact within_any k a0_0 a0_1 a0_2 a1_0 a1_1 a1_2 a1_3 a1_4 a1_5 a1_6 a1_7 a1_8 a1_9 a1_10 a1_11 l r w hN h hl
  · rw [if_neg hl] at h
    cases h
end Go.Proofs.Ythcndfnmgggblaa.P
