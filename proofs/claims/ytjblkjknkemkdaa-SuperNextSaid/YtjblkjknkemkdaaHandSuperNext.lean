/-
The law SuperNext, walked by hand behind its first call.
Conditions: none.
-/
import Derived.Test.YtjblkjknkemkdaaHand
import Derived.Test.YtjblkjknkemkdaaHandSuper
import Derived.Test.YtjblkjknkemkdaaHandSuperChoose
import Derived.Test.YtjblkjknkemkdaaHandSuperGet
import Derived.Test.YtjblkjknkemkdaaPx0
import Derived.Test.YtjblkjknkemkdaaPx2
import Derived.Test.YtjblkjknkemkdaaPx3
import Derived.Test.YtjblkjknkemkdaaPx4
import Derived.StillTailTactics
import Derived.Deep.RegionWith
import Derived.Test.YtjblkjknkemkdaaPx2
import Derived.Test.YtjblkjknkemkdaaPx3
import Derived.Test.YtjblkjknkemkdaaPx15
import Derived.Test.YtjblkjknkemkdaaPx11
import Derived.Test.YtjblkjknkemkdaaPx14
import Derived.Test.YtjblkjknkemkdaaPx10
import Derived.Test.YtjblkjknkemkdaaPx5
import Derived.Test.YtjblkjknkemkdaaPx9
namespace Go.Proofs.Ytjblkjknkemkdaa.P
open Go.RowKit Go.Proofs.YtjblkjknkemkdaaW.PrintWords Go.Proofs.YtjblkjknkemkdaaW.PrintLast Go.Proofs.YtjblkjknkemkdaaW.PrintMore
attribute [local go_sem] max2_int min2_int max_two min_two max_three min_three max_four min_four   -- for this text's walks alone
set_option linter.unusedVariables false
set_option linter.unusedSimpArgs false

attribute [local go_sem high] eqA30
attribute [local go_sem high] eqA25 eqA30
/-- What the law tells behind Next: t, p, e are what Next told. -/
def snextR (k : Nat) (a0_0 a0_1 a0_2 a0_3 a1_0 a1_1 a1_2 a2 a3 t0 t1 t2 t3 p e : Int) : Option Bool :=
  if e = 0 then
    if super_Super_right.f k a0_0 a0_1 a0_2 a0_3 = some true ∧ super_Super_right.f k t0 t1 t2 t3 = some true ∧ leveeref01_Count.f (Int.tmod t0 2) 2 = some p ∧ (p = 0 ∨ p = 1) then
      (leveeref03_Size.f a1_0 a1_1 a1_2).bind fun z1 => (leveeref03_Size.f a0_1 a0_2 a0_3).bind fun z2 => (leveeref01_Count.f a2 256).bind fun q =>
        if super_Choose.f k (if p = 0 then superL t0 t1 t2 t3 else superL a0_0 a0_1 a0_2 a0_3) (if p = 0 then superL a0_0 a0_1 a0_2 a0_3 else superL t0 t1 t2 t3) (wrap64 (z1 + z2)) = some (t0, t1, t2, t3, p, 0) ∧ 0 ≤ q ∧ q < 256 then
          if rd (superL t0 t1 t2 t3) q = a3 then leveelaw04_known.f k
          else if super_Choose.f k (if p = 0 then (superL t0 t1 t2 t3).set q.toNat a3 else superL a0_0 a0_1 a0_2 a0_3) (if p = 0 then superL a0_0 a0_1 a0_2 a0_3 else (superL t0 t1 t2 t3).set q.toNat a3) (wrap64 (z1 + z2)) = some (a0_0, a0_1, a0_2, a0_3, 1 - p, 0) then leveelaw04_known.f k
          else none
        else none
    else none
  else leveelaw04_known.f k
def leveelaw04_SuperNext.f (k : Nat) (a0_0 a0_1 a0_2 a0_3 a1_0 a1_1 a1_2 a2 a3 : Int) : Option Bool :=
  (super_Next.f k a0_0 a0_1 a0_2 a0_3 a1_0 a1_1 a1_2).bind fun x => snextR k a0_0 a0_1 a0_2 a0_3 a1_0 a1_1 a1_2 a2 a3 x.1 x.2.1 x.2.2.1 x.2.2.2.1 x.2.2.2.2.1 x.2.2.2.2.2
theorem choose_at (k : Nat) (g0 g1 : Nat) (l0 l1 : List Int) (h0 : l0.length = 256) (h1 : l1.length = 256) (a2 r1 r2 r3 r4 r5 r6 : Int) (w : World) (hx0 : w.heap[g0]? = some (.cells (nums .u8 l0).toArray 54 (0, 0))) (hx1 : w.heap[g1]? = some (.cells (nums .u8 l1).toArray 54 (0, 0))) (h : super_Choose.f k l0 l1 a2 = some (r1, r2, r3, r4, r5, r6)) :
    Calls Try.prog 16 #[.slice (some ⟨g0, 0, none⟩) 256 256, .slice (some ⟨g1, 0, none⟩) 256 256, .int .i64 a2] w fun e w' => e = .returned (.tuple #[.agg #[.int .i64 r1, .int .i64 r2, .int .i64 r3, .int .i64 r4], .int .i64 r5, .int .i64 r6]) ∧ Below w.heap.size w w' := by
  have c : ∀ (g : Nat) (l : List Int), l.length = 256 → w.heap[g]? = some (.cells (nums .u8 l).toArray 54 (0, 0)) → Kd.C (Kd.int .u8) w (some ⟨g, 0, none⟩) l.length l := fun g l hl hx => (Kd.R_reads' (R_of_block (k := .u8) (ok := fun _ => True) (base := 0) (xs := l) hx (Nat.zero_le _) (by rw [List.take_of_length_le (by rw [nums_length]; omega)]) (by rw [nums_length, hl]; decide) trivial)).2.2
  have r := super_Choose.calls k (some ⟨g0, 0, none⟩) 256 l0 (some ⟨g1, 0, none⟩) 256 l1 a2 r1 r2 r3 r4 r5 r6 w (c g0 l0 h0 hx0) (by omega) (c g1 l1 h1 hx1) (by omega) h
  rw [h0, h1] at r
  exact r
theorem count_below {a b r : Int} {w : World} (h : leveeref01_Count.f a b = some r) : Calls Try.prog 20 #[.int .i64 a, .int .i64 b] w fun e w' => e = .returned (.int .i64 r) ∧ Below w.heap.size w w' := by
  refine (leveeref01_Count.calls a b r w h).mono ?_
  rintro e w' ⟨rfl, ⟨nd, rfl⟩⟩
  exact ⟨rfl, pw_below_drewN (Below.refl _ _) nd⟩

theorem nums_set8 (l : List Int) (i : Nat) (v : Int) : (nums .u8 l).toArray.setIfInBounds i (.int .u8 v) = (nums .u8 (l.set i v)).toArray := by
  rw [List.setIfInBounds_toArray, nums, nums, List.map_set]
theorem cell_rd (l : List Int) (q : Int) (h0 : 0 ≤ q) (h1 : q < (l.length : Int)) : (nums .u8 l).toArray[q.toNat]? = some (Value.int .u8 (rd l q)) := by
  rw [List.getElem?_toArray, nums, List.getElem?_map, List.getElem?_eq_getElem (by omega : q.toNat < l.length), Option.map_some, rd, List.getD_eq_getElem?_getD, List.getElem?_eq_getElem (by omega : q.toNat < l.length), Option.getD_some]
theorem make_event {P : Program} {ops : Array Oper} {rest : List Oper} {o : Oper} {a : Act} {Q : Exit → Act → World → Prop} {W : World} (hgd : o.guard = none) {cs : Array Value} {t : TypeId} {n c : Nat}
    (hrun : (execOp a.eval o).run P W = .ok (.value (.slice (some ⟨W.heap.size, 0, none⟩) n c)) (W.alloc (.cells cs t (0, 0))))
    (h : ∀ g, g = W.heap.size → ∀ w1, w1.heap[g]? = some (.cells cs t (0, 0)) → Below W.heap.size W w1 → wpList P ops Q rest (a.put o.dst (.slice (some ⟨g, 0, none⟩) n c)) w1) : wpList P ops Q (o :: rest) a W :=
  Kd.event_run hgd hrun (h _ rfl _ (blk_new W _) (below_alloc (Below.refl _ _) _))
def leveelaw04_SuperNext.T1 : Bool × List (List Nat × List Nat) := (true, [([], []), ([0], [0]), ([], []), ([1, 2, 1], [1, 2]), ([3], [3]), ([4], [4]), ([4], [4]), ([4], [4]), ([], []), ([8, 5, 3, 0, 1, 2, 3, 4, 5, 8], [5, 8]), ([6, 9, 0, 1, 2, 3, 4, 5, 6, 8, 9], [6]), ([7, 10, 0, 1, 2, 3, 4, 5, 6, 7, 8, 9, 10], [7])])
def leveelaw04_SuperNext.B1 : List Nat := [0, 1, 0, 7, 15, 31, 31, 31, 0, 319, 895, 2047]
theorem leveelaw04_SuperNext.tab1 : rtab .any (opsOf Try.f6 1) = leveelaw04_SuperNext.T1 := by kernel_rfl
theorem leveelaw04_SuperNext.bits1 : waitsOk leveelaw04_SuperNext.T1.2 leveelaw04_SuperNext.B1 = true := by kernel_rfl
def leveelaw04_SuperNext.T12 : Bool × List (List Nat × List Nat) := (true, [([], []), ([0], [0]), ([1], [1]), ([], []), ([3], [3]), ([4], [4]), ([], []), ([2, 5, 6], [2, 5, 6]), ([7], [7]), ([8], [8]), ([8], [8]), ([8], [8]), ([], []), ([12, 9, 7, 0, 1, 2, 3, 4, 5, 6, 7, 8, 9, 12], [9, 12]), ([10, 13, 0, 1, 2, 3, 4, 5, 6, 7, 8, 9, 10, 12, 13], [10]), ([11, 14, 0, 1, 2, 3, 4, 5, 6, 7, 8, 9, 10, 11, 12, 13, 14], [11])])
def leveelaw04_SuperNext.B12 : List Nat := [0, 1, 3, 0, 8, 24, 0, 127, 255, 511, 511, 511, 0, 5119, 14335, 32767]
theorem leveelaw04_SuperNext.tab12 : rtab .any (opsOf Try.f6 12) = leveelaw04_SuperNext.T12 := by kernel_rfl
theorem leveelaw04_SuperNext.bits12 : waitsOk leveelaw04_SuperNext.T12.2 leveelaw04_SuperNext.B12 = true := by kernel_rfl
def leveelaw04_SuperNext.T19 : Bool × List (List Nat × List Nat) := (true, [([], []), ([0], [0]), ([1], [1]), ([], []), ([3], [3]), ([4], [4]), ([], []), ([2, 5, 6], [2, 5, 6]), ([7], [7]), ([8], [8]), ([8], [8]), ([8], [8]), ([], []), ([12, 9, 7, 0, 1, 2, 3, 4, 5, 6, 7, 8, 9, 12], [9, 12]), ([10, 13, 0, 1, 2, 3, 4, 5, 6, 7, 8, 9, 10, 12, 13], [10]), ([11, 14, 0, 1, 2, 3, 4, 5, 6, 7, 8, 9, 10, 11, 12, 13, 14], [11])])
def leveelaw04_SuperNext.B19 : List Nat := [0, 1, 3, 0, 8, 24, 0, 127, 255, 511, 511, 511, 0, 5119, 14335, 32767]
theorem leveelaw04_SuperNext.tab19 : rtab .any (opsOf Try.f6 19) = leveelaw04_SuperNext.T19 := by kernel_rfl
theorem leveelaw04_SuperNext.bits19 : waitsOk leveelaw04_SuperNext.T19.2 leveelaw04_SuperNext.B19 = true := by kernel_rfl
def leveelaw04_SuperNext.T20 : Bool × List (List Nat × List Nat) := (true, [([], []), ([0], [0]), ([], []), ([1, 2], [1, 2]), ([3, 1], [3]), ([4], [4]), ([4], [4]), ([6, 4], [4, 6]), ([5, 7, 4], [4, 5, 7]), ([4, 8], [4, 8]), ([9, 4], [9]), ([10], [10]), ([11, 10], [10, 11]), ([10, 12], [10, 12]), ([13, 10], [13]), ([14, 14], [14]), ([14, 15], [14, 15]), ([16, 15, 0, 1, 2, 3, 4, 5, 6, 7, 8, 9, 10, 11, 12, 13, 14, 15, 16], [16])])
def leveelaw04_SuperNext.B20 : List Nat := [0, 1, 0, 7, 15, 31, 31, 95, 255, 511, 1023, 2047, 4095, 8191, 16383, 32767, 65535, 131071]
theorem leveelaw04_SuperNext.tab20 : rtab .any (opsOf Try.f6 20) = leveelaw04_SuperNext.T20 := by kernel_rfl
theorem leveelaw04_SuperNext.bits20 : waitsOk leveelaw04_SuperNext.T20.2 leveelaw04_SuperNext.B20 = true := by kernel_rfl
set_option maxHeartbeats 16000000 in
set_option maxRecDepth 100000 in
theorem leveelaw04_SuperNext.calls (k : Nat) (a0_0 a0_1 a0_2 a0_3 a1_0 a1_1 a1_2 a2 a3 : Int) (r : Bool) (w : World) (h : leveelaw04_SuperNext.f k a0_0 a0_1 a0_2 a0_3 a1_0 a1_1 a1_2 a2 a3 = some r) :
    Calls Try.prog 6 #[.agg #[.int .i64 a0_0, .int .i64 a0_1, .int .i64 a0_2, .int .i64 a0_3], .agg #[.int .i64 a1_0, .int .i64 a1_1, .int .i64 a1_2], .int .i64 a2, .int .u8 a3] w fun e w' => e = .returned (.bool r) ∧ Below w.heap.size w w' := by
  have hu25 := Try.underlying25
  have hu23 := Try.underlying23
  have hu30 := Try.underlying30
  have HB := Aside0.mk (Below.refl w.heap.size w)
  unfold leveelaw04_SuperNext.f at h
  obtain ⟨⟨t0, t1, t2, t3, p, e⟩, A60, H⟩ := Option.bind_eq_some_iff.mp h
  have A6 := Aside0.mk A60
  have A5 : Aside0 (leveelaw04_given.f a0_0 a0_1 a0_2 a0_3 = some (a0_0, a0_1, a0_2, a0_3)) := ⟨rfl⟩
  replace H : snextR k a0_0 a0_1 a0_2 a0_3 a1_0 a1_1 a1_2 a2 a3 t0 t1 t2 t3 p e = some r := H
  have H' := Aside0.mk H
  clear H A60 h
  go_enter Try.func6, Try.ntmps6
  try go_wp2_with (first | ((with_reducible refine gate_dst (N := 4) rfl ?_); refine box_event ?hg (N := 4) ?hd (cs := #[.int .i64 a0_0, .int .i64 a0_1, .int .i64 a0_2, .int .i64 a0_3]) (t := 25) ?hr ?_; (case hd => rfl); (case hg => rfl); (case hr => first | (go_simp; done) | (go_simp; rfl)); intro g4 hg w8 hbox hb; have n0_ := Aside0.mk (below_step (by repeat (first | (with_reducible first | exact HB.out | apply below_alloc | apply pw_below_drewN | apply below_drew1) | exact HB.out)) hb); have n1_ := Aside0.mk (hbox); have n2_ := Aside0.mk ((by rw [hg]; exact (below_size (by repeat (first | (with_reducible first | exact HB.out | apply below_alloc | apply pw_below_drewN | apply below_drew1) | exact HB.out))) : w.heap.size ≤ g4)); have n3_ := Aside0.mk ((by rw [hg]; exact (below_size (by repeat (first | (with_reducible first | exact HB.out | apply below_alloc | apply pw_below_drewN | apply below_drew1) | exact HB.out))) : w.heap.size ≤ g4)); clear HB; have HB := n0_; have BK165 := n1_; have GW165 := n2_; have GE165 := n3_; clear n0_ n1_ n2_ n3_; clear hb hbox hg) | ((with_reducible refine gate_dst (N := 5) rfl ?_); refine box_event ?hg (N := 5) ?hd (cs := #[.int .i64 a1_0, .int .i64 a1_1, .int .i64 a1_2]) (t := 23) ?hr ?_; (case hd => rfl); (case hg => rfl); (case hr => first | (go_simp; done) | (go_simp; rfl)); intro g5 hg w9 hbox hb; have n0_ := Aside0.mk (blk_below (g := g4) (o := .cells #[.int .i64 a0_0, .int .i64 a0_1, .int .i64 a0_2, .int .i64 a0_3] 25 (0, 0)) (by (with_reducible repeat (first | refine blk_drewN ?_ _ | refine blk_drew ?_ | refine blk_alloc ?_ _)); exact BK165.out) hb); have n1_ := Aside0.mk (below_step (by repeat (first | (with_reducible first | exact HB.out | apply below_alloc | apply pw_below_drewN | apply below_drew1 | refine below_set ?_ GE165.out) | exact HB.out)) hb); have n2_ := Aside0.mk (hbox); have n3_ := Aside0.mk ((by rw [hg]; exact (below_size (by repeat (first | (with_reducible first | exact HB.out | apply below_alloc | apply pw_below_drewN | apply below_drew1 | refine below_set ?_ GE165.out) | exact HB.out))) : w.heap.size ≤ g5)); have n4_ := Aside0.mk ((by rw [hg]; exact (below_size (by repeat (first | (with_reducible first | exact HB.out | apply below_alloc | apply pw_below_drewN | apply below_drew1 | refine below_set ?_ GE165.out) | exact HB.out))) : w.heap.size ≤ g5)); have n5_ := Aside0.mk ((by rw [hg]; exact Nat.ne_of_lt (blk_lt (g := g4) (o := .cells #[.int .i64 a0_0, .int .i64 a0_1, .int .i64 a0_2, .int .i64 a0_3] 25 (0, 0)) (by (with_reducible repeat (first | refine blk_drewN ?_ _ | refine blk_drew ?_ | refine blk_alloc ?_ _)); exact BK165.out)) : g4 ≠ g5)); have n6_ := Aside0.mk ((by rw [hg]; exact Nat.ne_of_gt (blk_lt (g := g4) (o := .cells #[.int .i64 a0_0, .int .i64 a0_1, .int .i64 a0_2, .int .i64 a0_3] 25 (0, 0)) (by (with_reducible repeat (first | refine blk_drewN ?_ _ | refine blk_drew ?_ | refine blk_alloc ?_ _)); exact BK165.out)) : g5 ≠ g4)); clear BK165; clear HB; have BK165 := n0_; have HB := n1_; have BK166 := n2_; have GW166 := n3_; have GE166 := n4_; have NB165_166 := n5_; have NB166_165 := n6_; clear n0_ n1_ n2_ n3_ n4_ n5_ n6_; clear hb hbox hg))
  have n0_ := Aside0.mk (blk_drew BK165.out)
  have n1_ := Aside0.mk (blk_drew BK166.out)
  have n2_ := Aside0.mk (below_drew1 HB.out)
  clear BK165
  clear BK166
  clear HB
  have BK165 := n0_
  have BK166 := n1_
  have HB := n2_
  clear n0_ n1_ n2_
  refine start_ (n := 12) (S := fun w' => w'.cell? ⟨g4, 0, none⟩ = some (.int .i64 a0_0) ∧ w'.cell? ⟨g4, 1, none⟩ = some (.int .i64 a0_1) ∧ w'.cell? ⟨g4, 2, none⟩ = some (.int .i64 a0_2) ∧ w'.cell? ⟨g4, 3, none⟩ = some (.int .i64 a0_3) ∧ w'.cell? ⟨g5, 0, none⟩ = some (.int .i64 a1_0) ∧ w'.cell? ⟨g5, 1, none⟩ = some (.int .i64 a1_1) ∧ w'.cell? ⟨g5, 2, none⟩ = some (.int .i64 a1_2)) (ds := []) #[false, false, false, false, false, false, false, false, false, false, false, false] (by kernel_rfl) rfl rfl ⟨(blk_cell BK165.out 0).trans rfl, (blk_cell BK165.out 1).trans rfl, (blk_cell BK165.out 2).trans rfl, (blk_cell BK165.out 3).trans rfl, (blk_cell BK166.out 0).trans rfl, (blk_cell BK166.out 1).trans rfl, (blk_cell BK166.out 2).trans rfl⟩ (fun hHeld => ?_); refine with_tabW leveelaw04_SuperNext.tab1 leveelaw04_SuperNext.bits1 (fun HT_ HW_ => ?_)
  generalize w9.drew = w10 at BK165 BK166 HB hHeld ⊢
  refine take_ (i := 0) (N := some 26) (v := ?_) (a' := ?_) #[true, false, false, false, false, false, false, false, false, false, false, false] rfl rfl (take_ofW HT_.out HW_.out (by kernel_rfl)) (fun _ _ _ h => h) (Or.inl ⟨by rfl, ?_⟩) hHeld ?_ ?_
  rotate_left
  · rintro w' ⟨s0, s1, s2, s3, s4, s5, s6⟩
    go_simp
    with_reducible rfl
  rotate_left
  · simp only [Act.put, List.setIfInBounds_toArray, List.set_cons_zero, List.set_cons_succ, i64_w, i32_w]
    rfl
  refine take_ (i := 2) (N := some 28) (v := ?_) (a' := ?_) #[true, false, true, false, false, false, false, false, false, false, false, false] rfl rfl (take_ofW HT_.out HW_.out (by kernel_rfl)) (fun _ _ _ h => h) (Or.inl ⟨by rfl, ?_⟩) hHeld ?_ ?_
  rotate_left
  · rintro w' ⟨s0, s1, s2, s3, s4, s5, s6⟩
    go_simp
    with_reducible rfl
  rotate_left
  · simp only [Act.put, List.setIfInBounds_toArray, List.set_cons_zero, List.set_cons_succ, i64_w, i32_w]
    rfl
  refine join_ (σ := Nat) 3 #[true, true, true, true, true, true, true, true, true, false, false, false] (fun s_ => [(27, .agg #[.int .i64 a0_0, .int .i64 a0_1, .int .i64 a0_2, .int .i64 a0_3]), (29, .tuple #[.agg #[.int .i64 t0, .int .i64 t1, .int .i64 t2, .int .i64 t3], .int .i64 p, .int .i64 e]), (9, .pointer (some ⟨s_, 0, none⟩)), (25, .tuple #[.agg #[.int .i64 t0, .int .i64 t1, .int .i64 t2, .int .i64 t3], .int .i64 p, .int .i64 e]), (30, .agg #[.int .i64 t0, .int .i64 t1, .int .i64 t2, .int .i64 t3]), (31, .int .i64 p), (32, .int .i64 e)]) (fun s_ w' => (w'.cell? ⟨g4, 0, none⟩ = some (.int .i64 a0_0) ∧ w'.cell? ⟨g4, 1, none⟩ = some (.int .i64 a0_1) ∧ w'.cell? ⟨g4, 2, none⟩ = some (.int .i64 a0_2) ∧ w'.cell? ⟨g4, 3, none⟩ = some (.int .i64 a0_3) ∧ w'.cell? ⟨g5, 0, none⟩ = some (.int .i64 a1_0) ∧ w'.cell? ⟨g5, 1, none⟩ = some (.int .i64 a1_1) ∧ w'.cell? ⟨g5, 2, none⟩ = some (.int .i64 a1_2)) ∧ (w'.heap[g4]? = some (.cells #[.int .i64 a0_0, .int .i64 a0_1, .int .i64 a0_2, .int .i64 a0_3] 25 (0, 0))) ∧ (w'.heap[g5]? = some (.cells #[.int .i64 a1_0, .int .i64 a1_1, .int .i64 a1_2] 23 (0, 0))) ∧ (w'.heap[s_]? = some (.cells #[.int .i64 0, .int .i64 0, .int .i64 0, .int .i64 0] 30 (0, 0))) ∧ (w.heap.size ≤ s_) ∧ (w.heap.size ≤ s_) ∧ (g4 ≠ s_) ∧ (s_ ≠ g4) ∧ (g5 ≠ s_) ∧ (s_ ≠ g5) ∧ (Below w.heap.size w w')) ?_ ?_
  rotate_left
  · intro hCont
    refine two_ (i := 1) (j := 8) (Ni := some 27) (Nj := some 9) #[true, true, true, false, false, false, false, false, false, false, false, false] #[true, false, true, false, false, false, false, false, true, false, false, false] rfl rfl rfl rfl (two_of HT_.out (by kernel_rfl)) (by decide) (by decide) (fun K hK => ?_) (fun K hK => ?_)
    · skip
      refine goes_ Try.func8 (by kernel_rfl) rfl #[.agg #[.int .i64 a0_0, .int .i64 a0_1, .int .i64 a0_2, .int .i64 a0_3]] (by rfl) rfl rfl (by (try simp only [List.map_toArray, List.map_cons, List.map_nil]); first | done | rfl | (simp only [List.length_drop, List.length_take]; rfl)) ?_
      with_reducible refine (leveelaw04_given.calls a0_0 a0_1 a0_2 a0_3 a0_0 a0_1 a0_2 a0_3 _ A5.out).mono ?_
      rintro e w11 ⟨rfl, hb⟩
      refine ⟨_, rfl, ?_⟩
      have n0_ := Aside0.mk (blk_below (g := g4) (o := .cells #[.int .i64 a0_0, .int .i64 a0_1, .int .i64 a0_2, .int .i64 a0_3] 25 (0, 0)) (by (with_reducible repeat (first | refine blk_drewN ?_ _ | refine blk_drew ?_ | refine blk_alloc ?_ _)); exact BK165.out) hb)
      have n1_ := Aside0.mk (blk_below (g := g5) (o := .cells #[.int .i64 a1_0, .int .i64 a1_1, .int .i64 a1_2] 23 (0, 0)) (by (with_reducible repeat (first | refine blk_drewN ?_ _ | refine blk_drew ?_ | refine blk_alloc ?_ _)); exact BK166.out) hb)
      have n2_ := Aside0.mk (below_step (by repeat (first | (with_reducible first | exact HB.out | apply below_alloc | apply pw_below_drewN | apply below_drew1 | refine below_set ?_ GE165.out | refine below_set ?_ GE166.out) | exact HB.out)) hb)
      clear BK165
      clear BK166
      clear HB
      have BK165 := n0_
      have BK166 := n1_
      have HB := n2_
      clear n0_ n1_ n2_
      (try clear hb)
      (try clear hb2)
      (try clear hk)
      (try clear hi)
      refine hK.out _ _ ⟨(blk_cell BK165.out 0).trans rfl, (blk_cell BK165.out 1).trans rfl, (blk_cell BK165.out 2).trans rfl, (blk_cell BK165.out 3).trans rfl, (blk_cell BK166.out 0).trans rfl, (blk_cell BK166.out 1).trans rfl, (blk_cell BK166.out 2).trans rfl⟩ (fun hHeld => ?_)
      clear hK K
      refine norm_ (a' := ?_) ?_ ?_
      rotate_left
      · show Act.put _ (some 27) _ = _
        simp only [Act.put, List.setIfInBounds_toArray, List.set_cons_zero, List.set_cons_succ, i64_w, i32_w]
        rfl
      refine two_ (i := 3) (j := 8) (Ni := some 29) (Nj := some 9) #[true, true, true, true, false, false, false, false, false, false, false, false] #[true, true, true, false, false, false, false, false, true, false, false, false] rfl rfl rfl rfl (two_of HT_.out (by kernel_rfl)) (by decide) (by decide) (fun K hK => ?_) (fun K hK => ?_)
      · skip
        refine goes_ Try.func18 (by kernel_rfl) rfl #[.agg #[.int .i64 a0_0, .int .i64 a0_1, .int .i64 a0_2, .int .i64 a0_3], .agg #[.int .i64 a1_0, .int .i64 a1_1, .int .i64 a1_2]] (by rfl) rfl rfl (by (try simp only [List.map_toArray, List.map_cons, List.map_nil]); first | done | rfl | (simp only [List.length_drop, List.length_take]; rfl)) ?_
        with_reducible refine (super_Next.calls k a0_0 a0_1 a0_2 a0_3 a1_0 a1_1 a1_2 t0 t1 t2 t3 p e _ A6.out).mono ?_
        rintro e w12 ⟨rfl, hb⟩
        refine ⟨_, rfl, ?_⟩
        have n0_ := Aside0.mk (blk_below (g := g4) (o := .cells #[.int .i64 a0_0, .int .i64 a0_1, .int .i64 a0_2, .int .i64 a0_3] 25 (0, 0)) (by (with_reducible repeat (first | refine blk_drewN ?_ _ | refine blk_drew ?_ | refine blk_alloc ?_ _)); exact BK165.out) hb)
        have n1_ := Aside0.mk (blk_below (g := g5) (o := .cells #[.int .i64 a1_0, .int .i64 a1_1, .int .i64 a1_2] 23 (0, 0)) (by (with_reducible repeat (first | refine blk_drewN ?_ _ | refine blk_drew ?_ | refine blk_alloc ?_ _)); exact BK166.out) hb)
        have n2_ := Aside0.mk (below_step (by repeat (first | (with_reducible first | exact HB.out | apply below_alloc | apply pw_below_drewN | apply below_drew1 | refine below_set ?_ GE165.out | refine below_set ?_ GE166.out) | exact HB.out)) hb)
        clear BK165
        clear BK166
        clear HB
        have BK165 := n0_
        have BK166 := n1_
        have HB := n2_
        clear n0_ n1_ n2_
        (try clear hb)
        (try clear hb2)
        (try clear hk)
        (try clear hi)
        refine hK.out _ _ ⟨(blk_cell BK165.out 0).trans rfl, (blk_cell BK165.out 1).trans rfl, (blk_cell BK165.out 2).trans rfl, (blk_cell BK165.out 3).trans rfl, (blk_cell BK166.out 0).trans rfl, (blk_cell BK166.out 1).trans rfl, (blk_cell BK166.out 2).trans rfl⟩ (fun hHeld => ?_)
        clear hK K
        refine norm_ (a' := ?_) ?_ ?_
        rotate_left
        · show Act.put _ (some 29) _ = _
          simp only [Act.put, List.setIfInBounds_toArray, List.set_cons_zero, List.set_cons_succ, i64_w, i32_w]
          rfl
        refine pure_ (i := 4) (N := some 25) (v := ?_) (a' := ?_) #[true, true, true, true, true, false, false, false, false, false, false, false] rfl rfl (any_of HT_.out (by kernel_rfl)) (fun _ _ _ h => h) (Or.inl ⟨by rfl, ?_⟩) ?_ ?_
        rotate_left
        · intro w'
          go_simp
          with_reducible rfl
        rotate_left
        · simp only [Act.put, List.setIfInBounds_toArray, List.set_cons_zero, List.set_cons_succ, i64_w, i32_w]
          rfl
        refine pure_ (i := 5) (N := some 30) (v := ?_) (a' := ?_) #[true, true, true, true, true, true, false, false, false, false, false, false] rfl rfl (any_of HT_.out (by kernel_rfl)) (fun _ _ _ h => h) (Or.inl ⟨by rfl, ?_⟩) ?_ ?_
        rotate_left
        · intro w'
          go_simp
          with_reducible rfl
        rotate_left
        · simp only [Act.put, List.setIfInBounds_toArray, List.set_cons_zero, List.set_cons_succ, i64_w, i32_w]
          rfl
        refine pure_ (i := 6) (N := some 31) (v := ?_) (a' := ?_) #[true, true, true, true, true, true, true, false, false, false, false, false] rfl rfl (any_of HT_.out (by kernel_rfl)) (fun _ _ _ h => h) (Or.inl ⟨by rfl, ?_⟩) ?_ ?_
        rotate_left
        · intro w'
          go_simp
          with_reducible rfl
        rotate_left
        · simp only [Act.put, List.setIfInBounds_toArray, List.set_cons_zero, List.set_cons_succ, i64_w, i32_w]
          rfl
        refine pure_ (i := 7) (N := some 32) (v := ?_) (a' := ?_) #[true, true, true, true, true, true, true, true, false, false, false, false] rfl rfl (any_of HT_.out (by kernel_rfl)) (fun _ _ _ h => h) (Or.inl ⟨by rfl, ?_⟩) ?_ ?_
        rotate_left
        · intro w'
          go_simp
          with_reducible rfl
        rotate_left
        · simp only [Act.put, List.setIfInBounds_toArray, List.set_cons_zero, List.set_cons_succ, i64_w, i32_w]
          rfl
        refine one_ (i := 8) (N := some 9) #[true, true, true, true, true, true, true, true, true, false, false, false] rfl rfl (one_of HT_.out (by kernel_rfl)) (by decide) (fun K hK => ?_)
        refine box_step ?hg (N := 9) ?hd (cs := #[.int .i64 0, .int .i64 0, .int .i64 0, .int .i64 0]) (t := 30) ?hr ?_; (case hd => rfl); (case hg => rfl); (case hr => first | (go_simp; done) | (go_simp; rfl))
        intro g9 hg w13 hbox hb
        have n0_ := Aside0.mk (blk_below (g := g4) (o := .cells #[.int .i64 a0_0, .int .i64 a0_1, .int .i64 a0_2, .int .i64 a0_3] 25 (0, 0)) (by (with_reducible repeat (first | refine blk_drewN ?_ _ | refine blk_drew ?_ | refine blk_alloc ?_ _)); exact BK165.out) hb)
        have n1_ := Aside0.mk (blk_below (g := g5) (o := .cells #[.int .i64 a1_0, .int .i64 a1_1, .int .i64 a1_2] 23 (0, 0)) (by (with_reducible repeat (first | refine blk_drewN ?_ _ | refine blk_drew ?_ | refine blk_alloc ?_ _)); exact BK166.out) hb)
        have n2_ := Aside0.mk (below_step (by repeat (first | (with_reducible first | exact HB.out | apply below_alloc | apply pw_below_drewN | apply below_drew1 | refine below_set ?_ GE165.out | refine below_set ?_ GE166.out) | exact HB.out)) hb)
        have n3_ := Aside0.mk (hbox)
        have n4_ := Aside0.mk ((by rw [hg]; exact (below_size (by repeat (first | (with_reducible first | exact HB.out | apply below_alloc | apply pw_below_drewN | apply below_drew1 | refine below_set ?_ GE165.out | refine below_set ?_ GE166.out) | exact HB.out))) : w.heap.size ≤ g9))
        have n5_ := Aside0.mk ((by rw [hg]; exact (below_size (by repeat (first | (with_reducible first | exact HB.out | apply below_alloc | apply pw_below_drewN | apply below_drew1 | refine below_set ?_ GE165.out | refine below_set ?_ GE166.out) | exact HB.out))) : w.heap.size ≤ g9))
        have n6_ := Aside0.mk ((by rw [hg]; exact Nat.ne_of_lt (blk_lt (g := g4) (o := .cells #[.int .i64 a0_0, .int .i64 a0_1, .int .i64 a0_2, .int .i64 a0_3] 25 (0, 0)) (by (with_reducible repeat (first | refine blk_drewN ?_ _ | refine blk_drew ?_ | refine blk_alloc ?_ _)); exact BK165.out)) : g4 ≠ g9))
        have n7_ := Aside0.mk ((by rw [hg]; exact Nat.ne_of_gt (blk_lt (g := g4) (o := .cells #[.int .i64 a0_0, .int .i64 a0_1, .int .i64 a0_2, .int .i64 a0_3] 25 (0, 0)) (by (with_reducible repeat (first | refine blk_drewN ?_ _ | refine blk_drew ?_ | refine blk_alloc ?_ _)); exact BK165.out)) : g9 ≠ g4))
        have n8_ := Aside0.mk ((by rw [hg]; exact Nat.ne_of_lt (blk_lt (g := g5) (o := .cells #[.int .i64 a1_0, .int .i64 a1_1, .int .i64 a1_2] 23 (0, 0)) (by (with_reducible repeat (first | refine blk_drewN ?_ _ | refine blk_drew ?_ | refine blk_alloc ?_ _)); exact BK166.out)) : g5 ≠ g9))
        have n9_ := Aside0.mk ((by rw [hg]; exact Nat.ne_of_gt (blk_lt (g := g5) (o := .cells #[.int .i64 a1_0, .int .i64 a1_1, .int .i64 a1_2] 23 (0, 0)) (by (with_reducible repeat (first | refine blk_drewN ?_ _ | refine blk_drew ?_ | refine blk_alloc ?_ _)); exact BK166.out)) : g9 ≠ g5))
        clear BK165
        clear BK166
        clear HB
        have BK165 := n0_
        have BK166 := n1_
        have HB := n2_
        have BK177 := n3_
        have GW177 := n4_
        have GE177 := n5_
        have NB165_177 := n6_
        have NB177_165 := n7_
        have NB166_177 := n8_
        have NB177_166 := n9_
        clear n0_ n1_ n2_ n3_ n4_ n5_ n6_ n7_ n8_ n9_
        clear hb hbox hg
        refine hK.out _ _ ⟨(blk_cell BK165.out 0).trans rfl, (blk_cell BK165.out 1).trans rfl, (blk_cell BK165.out 2).trans rfl, (blk_cell BK165.out 3).trans rfl, (blk_cell BK166.out 0).trans rfl, (blk_cell BK166.out 1).trans rfl, (blk_cell BK166.out 2).trans rfl⟩ (fun hHeld => ?_)
        clear hK K
        refine norm_ (a' := ?_) ?_ ?_
        rotate_left
        · show Act.put _ (some 9) _ = _
          simp only [Act.put, List.setIfInBounds_toArray, List.set_cons_zero, List.set_cons_succ, i64_w, i32_w]
          rfl
        exact norm_ (by simp only [putAll, Act.put, List.setIfInBounds_toArray, List.set_cons_zero, List.set_cons_succ]) (hCont (g9) _ ⟨hHeld, (by (with_reducible repeat (first | refine blk_drewN ?_ _ | refine blk_drew ?_ | refine blk_alloc ?_ _)); exact BK165.out), (by (with_reducible repeat (first | refine blk_drewN ?_ _ | refine blk_drew ?_ | refine blk_alloc ?_ _)); exact BK166.out), (by (with_reducible repeat (first | refine blk_drewN ?_ _ | refine blk_drew ?_ | refine blk_alloc ?_ _)); exact BK177.out), GW177.out, GE177.out, NB165_177.out, NB177_165.out, NB166_177.out, NB177_166.out, (by repeat (first | (with_reducible first | exact HB.out | apply below_alloc | apply pw_below_drewN | apply below_drew1 | refine below_set ?_ GE165.out | refine below_set ?_ GE166.out | refine below_set ?_ GE177.out) | exact HB.out))⟩)
      · skip
        refine box_step ?hg (N := 9) ?hd (cs := #[.int .i64 0, .int .i64 0, .int .i64 0, .int .i64 0]) (t := 30) ?hr ?_; (case hd => rfl); (case hg => rfl); (case hr => first | (go_simp; done) | (go_simp; rfl))
        intro g9 hg w12 hbox hb
        have n0_ := Aside0.mk (blk_below (g := g4) (o := .cells #[.int .i64 a0_0, .int .i64 a0_1, .int .i64 a0_2, .int .i64 a0_3] 25 (0, 0)) (by (with_reducible repeat (first | refine blk_drewN ?_ _ | refine blk_drew ?_ | refine blk_alloc ?_ _)); exact BK165.out) hb)
        have n1_ := Aside0.mk (blk_below (g := g5) (o := .cells #[.int .i64 a1_0, .int .i64 a1_1, .int .i64 a1_2] 23 (0, 0)) (by (with_reducible repeat (first | refine blk_drewN ?_ _ | refine blk_drew ?_ | refine blk_alloc ?_ _)); exact BK166.out) hb)
        have n2_ := Aside0.mk (below_step (by repeat (first | (with_reducible first | exact HB.out | apply below_alloc | apply pw_below_drewN | apply below_drew1 | refine below_set ?_ GE165.out | refine below_set ?_ GE166.out) | exact HB.out)) hb)
        have n3_ := Aside0.mk (hbox)
        have n4_ := Aside0.mk ((by rw [hg]; exact (below_size (by repeat (first | (with_reducible first | exact HB.out | apply below_alloc | apply pw_below_drewN | apply below_drew1 | refine below_set ?_ GE165.out | refine below_set ?_ GE166.out) | exact HB.out))) : w.heap.size ≤ g9))
        have n5_ := Aside0.mk ((by rw [hg]; exact (below_size (by repeat (first | (with_reducible first | exact HB.out | apply below_alloc | apply pw_below_drewN | apply below_drew1 | refine below_set ?_ GE165.out | refine below_set ?_ GE166.out) | exact HB.out))) : w.heap.size ≤ g9))
        have n6_ := Aside0.mk ((by rw [hg]; exact Nat.ne_of_lt (blk_lt (g := g4) (o := .cells #[.int .i64 a0_0, .int .i64 a0_1, .int .i64 a0_2, .int .i64 a0_3] 25 (0, 0)) (by (with_reducible repeat (first | refine blk_drewN ?_ _ | refine blk_drew ?_ | refine blk_alloc ?_ _)); exact BK165.out)) : g4 ≠ g9))
        have n7_ := Aside0.mk ((by rw [hg]; exact Nat.ne_of_gt (blk_lt (g := g4) (o := .cells #[.int .i64 a0_0, .int .i64 a0_1, .int .i64 a0_2, .int .i64 a0_3] 25 (0, 0)) (by (with_reducible repeat (first | refine blk_drewN ?_ _ | refine blk_drew ?_ | refine blk_alloc ?_ _)); exact BK165.out)) : g9 ≠ g4))
        have n8_ := Aside0.mk ((by rw [hg]; exact Nat.ne_of_lt (blk_lt (g := g5) (o := .cells #[.int .i64 a1_0, .int .i64 a1_1, .int .i64 a1_2] 23 (0, 0)) (by (with_reducible repeat (first | refine blk_drewN ?_ _ | refine blk_drew ?_ | refine blk_alloc ?_ _)); exact BK166.out)) : g5 ≠ g9))
        have n9_ := Aside0.mk ((by rw [hg]; exact Nat.ne_of_gt (blk_lt (g := g5) (o := .cells #[.int .i64 a1_0, .int .i64 a1_1, .int .i64 a1_2] 23 (0, 0)) (by (with_reducible repeat (first | refine blk_drewN ?_ _ | refine blk_drew ?_ | refine blk_alloc ?_ _)); exact BK166.out)) : g9 ≠ g5))
        clear BK165
        clear BK166
        clear HB
        have BK165 := n0_
        have BK166 := n1_
        have HB := n2_
        have BK177 := n3_
        have GW177 := n4_
        have GE177 := n5_
        have NB165_177 := n6_
        have NB177_165 := n7_
        have NB166_177 := n8_
        have NB177_166 := n9_
        clear n0_ n1_ n2_ n3_ n4_ n5_ n6_ n7_ n8_ n9_
        clear hb hbox hg
        refine hK.out _ _ ⟨(blk_cell BK165.out 0).trans rfl, (blk_cell BK165.out 1).trans rfl, (blk_cell BK165.out 2).trans rfl, (blk_cell BK165.out 3).trans rfl, (blk_cell BK166.out 0).trans rfl, (blk_cell BK166.out 1).trans rfl, (blk_cell BK166.out 2).trans rfl⟩ (fun hHeld => ?_)
        clear hK K
        refine norm_ (a' := ?_) ?_ ?_
        rotate_left
        · show Act.put _ (some 9) _ = _
          simp only [Act.put, List.setIfInBounds_toArray, List.set_cons_zero, List.set_cons_succ, i64_w, i32_w]
          rfl
        refine one_ (i := 3) (N := some 29) #[true, true, true, true, false, false, false, false, true, false, false, false] rfl rfl (one_of HT_.out (by kernel_rfl)) (by decide) (fun K hK => ?_)
        refine goes_ Try.func18 (by kernel_rfl) rfl #[.agg #[.int .i64 a0_0, .int .i64 a0_1, .int .i64 a0_2, .int .i64 a0_3], .agg #[.int .i64 a1_0, .int .i64 a1_1, .int .i64 a1_2]] (by rfl) rfl rfl (by (try simp only [List.map_toArray, List.map_cons, List.map_nil]); first | done | rfl | (simp only [List.length_drop, List.length_take]; rfl)) ?_
        with_reducible refine (super_Next.calls k a0_0 a0_1 a0_2 a0_3 a1_0 a1_1 a1_2 t0 t1 t2 t3 p e _ A6.out).mono ?_
        rintro e w13 ⟨rfl, hb⟩
        refine ⟨_, rfl, ?_⟩
        have n0_ := Aside0.mk (blk_below (g := g4) (o := .cells #[.int .i64 a0_0, .int .i64 a0_1, .int .i64 a0_2, .int .i64 a0_3] 25 (0, 0)) (by (with_reducible repeat (first | refine blk_drewN ?_ _ | refine blk_drew ?_ | refine blk_alloc ?_ _)); exact BK165.out) hb)
        have n1_ := Aside0.mk (blk_below (g := g5) (o := .cells #[.int .i64 a1_0, .int .i64 a1_1, .int .i64 a1_2] 23 (0, 0)) (by (with_reducible repeat (first | refine blk_drewN ?_ _ | refine blk_drew ?_ | refine blk_alloc ?_ _)); exact BK166.out) hb)
        have n2_ := Aside0.mk (blk_below (g := g9) (o := .cells #[.int .i64 0, .int .i64 0, .int .i64 0, .int .i64 0] 30 (0, 0)) (by (with_reducible repeat (first | refine blk_drewN ?_ _ | refine blk_drew ?_ | refine blk_alloc ?_ _)); exact BK177.out) hb)
        have n3_ := Aside0.mk (below_step (by repeat (first | (with_reducible first | exact HB.out | apply below_alloc | apply pw_below_drewN | apply below_drew1 | refine below_set ?_ GE165.out | refine below_set ?_ GE166.out | refine below_set ?_ GE177.out) | exact HB.out)) hb)
        clear BK165
        clear BK166
        clear BK177
        clear HB
        have BK165 := n0_
        have BK166 := n1_
        have BK177 := n2_
        have HB := n3_
        clear n0_ n1_ n2_ n3_
        (try clear hb)
        (try clear hb2)
        (try clear hk)
        (try clear hi)
        refine hK.out _ _ ⟨(blk_cell BK165.out 0).trans rfl, (blk_cell BK165.out 1).trans rfl, (blk_cell BK165.out 2).trans rfl, (blk_cell BK165.out 3).trans rfl, (blk_cell BK166.out 0).trans rfl, (blk_cell BK166.out 1).trans rfl, (blk_cell BK166.out 2).trans rfl⟩ (fun hHeld => ?_)
        clear hK K
        refine norm_ (a' := ?_) ?_ ?_
        rotate_left
        · show Act.put _ (some 29) _ = _
          simp only [Act.put, List.setIfInBounds_toArray, List.set_cons_zero, List.set_cons_succ, i64_w, i32_w]
          rfl
        refine pure_ (i := 4) (N := some 25) (v := ?_) (a' := ?_) #[true, true, true, true, true, false, false, false, true, false, false, false] rfl rfl (any_of HT_.out (by kernel_rfl)) (fun _ _ _ h => h) (Or.inl ⟨by rfl, ?_⟩) ?_ ?_
        rotate_left
        · intro w'
          go_simp
          with_reducible rfl
        rotate_left
        · simp only [Act.put, List.setIfInBounds_toArray, List.set_cons_zero, List.set_cons_succ, i64_w, i32_w]
          rfl
        refine pure_ (i := 5) (N := some 30) (v := ?_) (a' := ?_) #[true, true, true, true, true, true, false, false, true, false, false, false] rfl rfl (any_of HT_.out (by kernel_rfl)) (fun _ _ _ h => h) (Or.inl ⟨by rfl, ?_⟩) ?_ ?_
        rotate_left
        · intro w'
          go_simp
          with_reducible rfl
        rotate_left
        · simp only [Act.put, List.setIfInBounds_toArray, List.set_cons_zero, List.set_cons_succ, i64_w, i32_w]
          rfl
        refine pure_ (i := 6) (N := some 31) (v := ?_) (a' := ?_) #[true, true, true, true, true, true, true, false, true, false, false, false] rfl rfl (any_of HT_.out (by kernel_rfl)) (fun _ _ _ h => h) (Or.inl ⟨by rfl, ?_⟩) ?_ ?_
        rotate_left
        · intro w'
          go_simp
          with_reducible rfl
        rotate_left
        · simp only [Act.put, List.setIfInBounds_toArray, List.set_cons_zero, List.set_cons_succ, i64_w, i32_w]
          rfl
        refine pure_ (i := 7) (N := some 32) (v := ?_) (a' := ?_) #[true, true, true, true, true, true, true, true, true, false, false, false] rfl rfl (any_of HT_.out (by kernel_rfl)) (fun _ _ _ h => h) (Or.inl ⟨by rfl, ?_⟩) ?_ ?_
        rotate_left
        · intro w'
          go_simp
          with_reducible rfl
        rotate_left
        · simp only [Act.put, List.setIfInBounds_toArray, List.set_cons_zero, List.set_cons_succ, i64_w, i32_w]
          rfl
        exact norm_ (by simp only [putAll, Act.put, List.setIfInBounds_toArray, List.set_cons_zero, List.set_cons_succ]) (hCont (g9) _ ⟨hHeld, (by (with_reducible repeat (first | refine blk_drewN ?_ _ | refine blk_drew ?_ | refine blk_alloc ?_ _)); exact BK165.out), (by (with_reducible repeat (first | refine blk_drewN ?_ _ | refine blk_drew ?_ | refine blk_alloc ?_ _)); exact BK166.out), (by (with_reducible repeat (first | refine blk_drewN ?_ _ | refine blk_drew ?_ | refine blk_alloc ?_ _)); exact BK177.out), GW177.out, GE177.out, NB165_177.out, NB177_165.out, NB166_177.out, NB177_166.out, (by repeat (first | (with_reducible first | exact HB.out | apply below_alloc | apply pw_below_drewN | apply below_drew1 | refine below_set ?_ GE165.out | refine below_set ?_ GE166.out | refine below_set ?_ GE177.out) | exact HB.out))⟩)
    · skip
      refine box_step ?hg (N := 9) ?hd (cs := #[.int .i64 0, .int .i64 0, .int .i64 0, .int .i64 0]) (t := 30) ?hr ?_; (case hd => rfl); (case hg => rfl); (case hr => first | (go_simp; done) | (go_simp; rfl))
      intro g9 hg w11 hbox hb
      have n0_ := Aside0.mk (blk_below (g := g4) (o := .cells #[.int .i64 a0_0, .int .i64 a0_1, .int .i64 a0_2, .int .i64 a0_3] 25 (0, 0)) (by (with_reducible repeat (first | refine blk_drewN ?_ _ | refine blk_drew ?_ | refine blk_alloc ?_ _)); exact BK165.out) hb)
      have n1_ := Aside0.mk (blk_below (g := g5) (o := .cells #[.int .i64 a1_0, .int .i64 a1_1, .int .i64 a1_2] 23 (0, 0)) (by (with_reducible repeat (first | refine blk_drewN ?_ _ | refine blk_drew ?_ | refine blk_alloc ?_ _)); exact BK166.out) hb)
      have n2_ := Aside0.mk (below_step (by repeat (first | (with_reducible first | exact HB.out | apply below_alloc | apply pw_below_drewN | apply below_drew1 | refine below_set ?_ GE165.out | refine below_set ?_ GE166.out) | exact HB.out)) hb)
      have n3_ := Aside0.mk (hbox)
      have n4_ := Aside0.mk ((by rw [hg]; exact (below_size (by repeat (first | (with_reducible first | exact HB.out | apply below_alloc | apply pw_below_drewN | apply below_drew1 | refine below_set ?_ GE165.out | refine below_set ?_ GE166.out) | exact HB.out))) : w.heap.size ≤ g9))
      have n5_ := Aside0.mk ((by rw [hg]; exact (below_size (by repeat (first | (with_reducible first | exact HB.out | apply below_alloc | apply pw_below_drewN | apply below_drew1 | refine below_set ?_ GE165.out | refine below_set ?_ GE166.out) | exact HB.out))) : w.heap.size ≤ g9))
      have n6_ := Aside0.mk ((by rw [hg]; exact Nat.ne_of_lt (blk_lt (g := g4) (o := .cells #[.int .i64 a0_0, .int .i64 a0_1, .int .i64 a0_2, .int .i64 a0_3] 25 (0, 0)) (by (with_reducible repeat (first | refine blk_drewN ?_ _ | refine blk_drew ?_ | refine blk_alloc ?_ _)); exact BK165.out)) : g4 ≠ g9))
      have n7_ := Aside0.mk ((by rw [hg]; exact Nat.ne_of_gt (blk_lt (g := g4) (o := .cells #[.int .i64 a0_0, .int .i64 a0_1, .int .i64 a0_2, .int .i64 a0_3] 25 (0, 0)) (by (with_reducible repeat (first | refine blk_drewN ?_ _ | refine blk_drew ?_ | refine blk_alloc ?_ _)); exact BK165.out)) : g9 ≠ g4))
      have n8_ := Aside0.mk ((by rw [hg]; exact Nat.ne_of_lt (blk_lt (g := g5) (o := .cells #[.int .i64 a1_0, .int .i64 a1_1, .int .i64 a1_2] 23 (0, 0)) (by (with_reducible repeat (first | refine blk_drewN ?_ _ | refine blk_drew ?_ | refine blk_alloc ?_ _)); exact BK166.out)) : g5 ≠ g9))
      have n9_ := Aside0.mk ((by rw [hg]; exact Nat.ne_of_gt (blk_lt (g := g5) (o := .cells #[.int .i64 a1_0, .int .i64 a1_1, .int .i64 a1_2] 23 (0, 0)) (by (with_reducible repeat (first | refine blk_drewN ?_ _ | refine blk_drew ?_ | refine blk_alloc ?_ _)); exact BK166.out)) : g9 ≠ g5))
      clear BK165
      clear BK166
      clear HB
      have BK165 := n0_
      have BK166 := n1_
      have HB := n2_
      have BK177 := n3_
      have GW177 := n4_
      have GE177 := n5_
      have NB165_177 := n6_
      have NB177_165 := n7_
      have NB166_177 := n8_
      have NB177_166 := n9_
      clear n0_ n1_ n2_ n3_ n4_ n5_ n6_ n7_ n8_ n9_
      clear hb hbox hg
      refine hK.out _ _ ⟨(blk_cell BK165.out 0).trans rfl, (blk_cell BK165.out 1).trans rfl, (blk_cell BK165.out 2).trans rfl, (blk_cell BK165.out 3).trans rfl, (blk_cell BK166.out 0).trans rfl, (blk_cell BK166.out 1).trans rfl, (blk_cell BK166.out 2).trans rfl⟩ (fun hHeld => ?_)
      clear hK K
      refine norm_ (a' := ?_) ?_ ?_
      rotate_left
      · show Act.put _ (some 9) _ = _
        simp only [Act.put, List.setIfInBounds_toArray, List.set_cons_zero, List.set_cons_succ, i64_w, i32_w]
        rfl
      refine one_ (i := 1) (N := some 27) #[true, true, true, false, false, false, false, false, true, false, false, false] rfl rfl (one_of HT_.out (by kernel_rfl)) (by decide) (fun K hK => ?_)
      refine goes_ Try.func8 (by kernel_rfl) rfl #[.agg #[.int .i64 a0_0, .int .i64 a0_1, .int .i64 a0_2, .int .i64 a0_3]] (by rfl) rfl rfl (by (try simp only [List.map_toArray, List.map_cons, List.map_nil]); first | done | rfl | (simp only [List.length_drop, List.length_take]; rfl)) ?_
      with_reducible refine (leveelaw04_given.calls a0_0 a0_1 a0_2 a0_3 a0_0 a0_1 a0_2 a0_3 _ A5.out).mono ?_
      rintro e w12 ⟨rfl, hb⟩
      refine ⟨_, rfl, ?_⟩
      have n0_ := Aside0.mk (blk_below (g := g4) (o := .cells #[.int .i64 a0_0, .int .i64 a0_1, .int .i64 a0_2, .int .i64 a0_3] 25 (0, 0)) (by (with_reducible repeat (first | refine blk_drewN ?_ _ | refine blk_drew ?_ | refine blk_alloc ?_ _)); exact BK165.out) hb)
      have n1_ := Aside0.mk (blk_below (g := g5) (o := .cells #[.int .i64 a1_0, .int .i64 a1_1, .int .i64 a1_2] 23 (0, 0)) (by (with_reducible repeat (first | refine blk_drewN ?_ _ | refine blk_drew ?_ | refine blk_alloc ?_ _)); exact BK166.out) hb)
      have n2_ := Aside0.mk (blk_below (g := g9) (o := .cells #[.int .i64 0, .int .i64 0, .int .i64 0, .int .i64 0] 30 (0, 0)) (by (with_reducible repeat (first | refine blk_drewN ?_ _ | refine blk_drew ?_ | refine blk_alloc ?_ _)); exact BK177.out) hb)
      have n3_ := Aside0.mk (below_step (by repeat (first | (with_reducible first | exact HB.out | apply below_alloc | apply pw_below_drewN | apply below_drew1 | refine below_set ?_ GE165.out | refine below_set ?_ GE166.out | refine below_set ?_ GE177.out) | exact HB.out)) hb)
      clear BK165
      clear BK166
      clear BK177
      clear HB
      have BK165 := n0_
      have BK166 := n1_
      have BK177 := n2_
      have HB := n3_
      clear n0_ n1_ n2_ n3_
      (try clear hb)
      (try clear hb2)
      (try clear hk)
      (try clear hi)
      refine hK.out _ _ ⟨(blk_cell BK165.out 0).trans rfl, (blk_cell BK165.out 1).trans rfl, (blk_cell BK165.out 2).trans rfl, (blk_cell BK165.out 3).trans rfl, (blk_cell BK166.out 0).trans rfl, (blk_cell BK166.out 1).trans rfl, (blk_cell BK166.out 2).trans rfl⟩ (fun hHeld => ?_)
      clear hK K
      refine norm_ (a' := ?_) ?_ ?_
      rotate_left
      · show Act.put _ (some 27) _ = _
        simp only [Act.put, List.setIfInBounds_toArray, List.set_cons_zero, List.set_cons_succ, i64_w, i32_w]
        rfl
      refine one_ (i := 3) (N := some 29) #[true, true, true, true, false, false, false, false, true, false, false, false] rfl rfl (one_of HT_.out (by kernel_rfl)) (by decide) (fun K hK => ?_)
      refine goes_ Try.func18 (by kernel_rfl) rfl #[.agg #[.int .i64 a0_0, .int .i64 a0_1, .int .i64 a0_2, .int .i64 a0_3], .agg #[.int .i64 a1_0, .int .i64 a1_1, .int .i64 a1_2]] (by rfl) rfl rfl (by (try simp only [List.map_toArray, List.map_cons, List.map_nil]); first | done | rfl | (simp only [List.length_drop, List.length_take]; rfl)) ?_
      with_reducible refine (super_Next.calls k a0_0 a0_1 a0_2 a0_3 a1_0 a1_1 a1_2 t0 t1 t2 t3 p e _ A6.out).mono ?_
      rintro e w13 ⟨rfl, hb⟩
      refine ⟨_, rfl, ?_⟩
      have n0_ := Aside0.mk (blk_below (g := g4) (o := .cells #[.int .i64 a0_0, .int .i64 a0_1, .int .i64 a0_2, .int .i64 a0_3] 25 (0, 0)) (by (with_reducible repeat (first | refine blk_drewN ?_ _ | refine blk_drew ?_ | refine blk_alloc ?_ _)); exact BK165.out) hb)
      have n1_ := Aside0.mk (blk_below (g := g5) (o := .cells #[.int .i64 a1_0, .int .i64 a1_1, .int .i64 a1_2] 23 (0, 0)) (by (with_reducible repeat (first | refine blk_drewN ?_ _ | refine blk_drew ?_ | refine blk_alloc ?_ _)); exact BK166.out) hb)
      have n2_ := Aside0.mk (blk_below (g := g9) (o := .cells #[.int .i64 0, .int .i64 0, .int .i64 0, .int .i64 0] 30 (0, 0)) (by (with_reducible repeat (first | refine blk_drewN ?_ _ | refine blk_drew ?_ | refine blk_alloc ?_ _)); exact BK177.out) hb)
      have n3_ := Aside0.mk (below_step (by repeat (first | (with_reducible first | exact HB.out | apply below_alloc | apply pw_below_drewN | apply below_drew1 | refine below_set ?_ GE165.out | refine below_set ?_ GE166.out | refine below_set ?_ GE177.out) | exact HB.out)) hb)
      clear BK165
      clear BK166
      clear BK177
      clear HB
      have BK165 := n0_
      have BK166 := n1_
      have BK177 := n2_
      have HB := n3_
      clear n0_ n1_ n2_ n3_
      (try clear hb)
      (try clear hb2)
      (try clear hk)
      (try clear hi)
      refine hK.out _ _ ⟨(blk_cell BK165.out 0).trans rfl, (blk_cell BK165.out 1).trans rfl, (blk_cell BK165.out 2).trans rfl, (blk_cell BK165.out 3).trans rfl, (blk_cell BK166.out 0).trans rfl, (blk_cell BK166.out 1).trans rfl, (blk_cell BK166.out 2).trans rfl⟩ (fun hHeld => ?_)
      clear hK K
      refine norm_ (a' := ?_) ?_ ?_
      rotate_left
      · show Act.put _ (some 29) _ = _
        simp only [Act.put, List.setIfInBounds_toArray, List.set_cons_zero, List.set_cons_succ, i64_w, i32_w]
        rfl
      refine pure_ (i := 4) (N := some 25) (v := ?_) (a' := ?_) #[true, true, true, true, true, false, false, false, true, false, false, false] rfl rfl (any_of HT_.out (by kernel_rfl)) (fun _ _ _ h => h) (Or.inl ⟨by rfl, ?_⟩) ?_ ?_
      rotate_left
      · intro w'
        go_simp
        with_reducible rfl
      rotate_left
      · simp only [Act.put, List.setIfInBounds_toArray, List.set_cons_zero, List.set_cons_succ, i64_w, i32_w]
        rfl
      refine pure_ (i := 5) (N := some 30) (v := ?_) (a' := ?_) #[true, true, true, true, true, true, false, false, true, false, false, false] rfl rfl (any_of HT_.out (by kernel_rfl)) (fun _ _ _ h => h) (Or.inl ⟨by rfl, ?_⟩) ?_ ?_
      rotate_left
      · intro w'
        go_simp
        with_reducible rfl
      rotate_left
      · simp only [Act.put, List.setIfInBounds_toArray, List.set_cons_zero, List.set_cons_succ, i64_w, i32_w]
        rfl
      refine pure_ (i := 6) (N := some 31) (v := ?_) (a' := ?_) #[true, true, true, true, true, true, true, false, true, false, false, false] rfl rfl (any_of HT_.out (by kernel_rfl)) (fun _ _ _ h => h) (Or.inl ⟨by rfl, ?_⟩) ?_ ?_
      rotate_left
      · intro w'
        go_simp
        with_reducible rfl
      rotate_left
      · simp only [Act.put, List.setIfInBounds_toArray, List.set_cons_zero, List.set_cons_succ, i64_w, i32_w]
        rfl
      refine pure_ (i := 7) (N := some 32) (v := ?_) (a' := ?_) #[true, true, true, true, true, true, true, true, true, false, false, false] rfl rfl (any_of HT_.out (by kernel_rfl)) (fun _ _ _ h => h) (Or.inl ⟨by rfl, ?_⟩) ?_ ?_
      rotate_left
      · intro w'
        go_simp
        with_reducible rfl
      rotate_left
      · simp only [Act.put, List.setIfInBounds_toArray, List.set_cons_zero, List.set_cons_succ, i64_w, i32_w]
        rfl
      exact norm_ (by simp only [putAll, Act.put, List.setIfInBounds_toArray, List.set_cons_zero, List.set_cons_succ]) (hCont (g9) _ ⟨hHeld, (by (with_reducible repeat (first | refine blk_drewN ?_ _ | refine blk_drew ?_ | refine blk_alloc ?_ _)); exact BK165.out), (by (with_reducible repeat (first | refine blk_drewN ?_ _ | refine blk_drew ?_ | refine blk_alloc ?_ _)); exact BK166.out), (by (with_reducible repeat (first | refine blk_drewN ?_ _ | refine blk_drew ?_ | refine blk_alloc ?_ _)); exact BK177.out), GW177.out, GE177.out, NB165_177.out, NB177_165.out, NB166_177.out, NB177_166.out, (by repeat (first | (with_reducible first | exact HB.out | apply below_alloc | apply pw_below_drewN | apply below_drew1 | refine below_set ?_ GE165.out | refine below_set ?_ GE166.out | refine below_set ?_ GE177.out) | exact HB.out))⟩)
  rintro g9 w14 ⟨hS_, h0_, h1_, h2_, h3_, h4_, h5_, h6_, h7_, h8_, h9_⟩
  have n0_ : Aside0 (w14.heap[g4]? = some (.cells #[.int .i64 a0_0, .int .i64 a0_1, .int .i64 a0_2, .int .i64 a0_3] 25 (0, 0))) := ⟨h0_⟩
  have n1_ : Aside0 (w14.heap[g5]? = some (.cells #[.int .i64 a1_0, .int .i64 a1_1, .int .i64 a1_2] 23 (0, 0))) := ⟨h1_⟩
  have n2_ : Aside0 (w14.heap[g9]? = some (.cells #[.int .i64 0, .int .i64 0, .int .i64 0, .int .i64 0] 30 (0, 0))) := ⟨h2_⟩
  have n3_ : Aside0 (w.heap.size ≤ g9) := ⟨h3_⟩
  have n4_ : Aside0 (w.heap.size ≤ g9) := ⟨h4_⟩
  have n5_ : Aside0 (g4 ≠ g9) := ⟨h5_⟩
  have n6_ : Aside0 (g9 ≠ g4) := ⟨h6_⟩
  have n7_ : Aside0 (g5 ≠ g9) := ⟨h7_⟩
  have n8_ : Aside0 (g9 ≠ g5) := ⟨h8_⟩
  have n9_ : Aside0 (Below w.heap.size w w14) := ⟨h9_⟩
  clear BK165
  clear BK166
  clear HB
  clear h0_ h1_ h2_ h3_ h4_ h5_ h6_ h7_ h8_ h9_
  have BK165 := n0_
  have BK166 := n1_
  have BK177 := n2_
  have GW177 := n3_
  have GE177 := n4_
  have NB165_177 := n5_
  have NB177_165 := n6_
  have NB166_177 := n7_
  have NB177_166 := n8_
  have HB := n9_
  clear n0_ n1_ n2_ n3_ n4_ n5_ n6_ n7_ n8_ n9_
  have hHeld : w14.cell? ⟨g4, 0, none⟩ = some (.int .i64 a0_0) ∧ w14.cell? ⟨g4, 1, none⟩ = some (.int .i64 a0_1) ∧ w14.cell? ⟨g4, 2, none⟩ = some (.int .i64 a0_2) ∧ w14.cell? ⟨g4, 3, none⟩ = some (.int .i64 a0_3) ∧ w14.cell? ⟨g5, 0, none⟩ = some (.int .i64 a1_0) ∧ w14.cell? ⟨g5, 1, none⟩ = some (.int .i64 a1_1) ∧ w14.cell? ⟨g5, 2, none⟩ = some (.int .i64 a1_2) := hS_
  refine norm_ (a' := ?_) ?_ ?_
  rotate_left
  · simp only [putAll, Act.put, List.setIfInBounds_toArray, List.set_cons_zero, List.set_cons_succ]
    rfl
  refine one_ (i := 9) (N := none) #[true, true, true, true, true, true, true, true, true, true, false, false] rfl rfl (one_of HT_.out (by kernel_rfl)) (by decide) (fun K hK => ?_)
  have hs15 : w14.cell? ⟨g9, 0, none⟩ = some (.int .i64 0) := (blk_cell BK177.out 0).trans rfl
  have hfs15 := blk_frozen BK177.out 0
  have hns15_0 := NB165_177.out
  have hns15_1 := NB166_177.out
  have hms15_0 := NB177_165.out
  have hms15_1 := NB177_166.out
  have hs16 : w14.cell? ⟨g9, 1, none⟩ = some (.int .i64 0) := (blk_cell BK177.out 1).trans rfl
  have hfs16 := blk_frozen BK177.out 1
  have hns16_0 := NB165_177.out
  have hns16_1 := NB166_177.out
  have hms16_0 := NB177_165.out
  have hms16_1 := NB177_166.out
  have hs17 : w14.cell? ⟨g9, 2, none⟩ = some (.int .i64 0) := (blk_cell BK177.out 2).trans rfl
  have hfs17 := blk_frozen BK177.out 2
  have hns17_0 := NB165_177.out
  have hns17_1 := NB166_177.out
  have hms17_0 := NB177_165.out
  have hms17_1 := NB177_166.out
  have hs18 : w14.cell? ⟨g9, 3, none⟩ = some (.int .i64 0) := (blk_cell BK177.out 3).trans rfl
  have hfs18 := blk_frozen BK177.out 3
  have hns18_0 := NB165_177.out
  have hns18_1 := NB166_177.out
  have hms18_0 := NB177_165.out
  have hms18_1 := NB177_166.out
  refine skip_ (w1 := ?_) (by rfl) rfl ?_ ?_
  rotate_left
  · go_simp
    rfl
  refine hK.out _ _ ⟨((cell_far (p := ⟨g9, _, none⟩) NB165_177.out _).trans (((cell_far (p := ⟨g9, _, none⟩) NB165_177.out _).trans (((cell_far (p := ⟨g9, _, none⟩) NB165_177.out _).trans (((cell_far (p := ⟨g9, _, none⟩) NB165_177.out _).trans (hHeld.1)))))))), ((cell_far (p := ⟨g9, _, none⟩) NB165_177.out _).trans (((cell_far (p := ⟨g9, _, none⟩) NB165_177.out _).trans (((cell_far (p := ⟨g9, _, none⟩) NB165_177.out _).trans (((cell_far (p := ⟨g9, _, none⟩) NB165_177.out _).trans (hHeld.2.1)))))))), ((cell_far (p := ⟨g9, _, none⟩) NB165_177.out _).trans (((cell_far (p := ⟨g9, _, none⟩) NB165_177.out _).trans (((cell_far (p := ⟨g9, _, none⟩) NB165_177.out _).trans (((cell_far (p := ⟨g9, _, none⟩) NB165_177.out _).trans (hHeld.2.2.1)))))))), ((cell_far (p := ⟨g9, _, none⟩) NB165_177.out _).trans (((cell_far (p := ⟨g9, _, none⟩) NB165_177.out _).trans (((cell_far (p := ⟨g9, _, none⟩) NB165_177.out _).trans (((cell_far (p := ⟨g9, _, none⟩) NB165_177.out _).trans (hHeld.2.2.2.1)))))))), ((cell_far (p := ⟨g9, _, none⟩) NB166_177.out _).trans (((cell_far (p := ⟨g9, _, none⟩) NB166_177.out _).trans (((cell_far (p := ⟨g9, _, none⟩) NB166_177.out _).trans (((cell_far (p := ⟨g9, _, none⟩) NB166_177.out _).trans (hHeld.2.2.2.2.1)))))))), ((cell_far (p := ⟨g9, _, none⟩) NB166_177.out _).trans (((cell_far (p := ⟨g9, _, none⟩) NB166_177.out _).trans (((cell_far (p := ⟨g9, _, none⟩) NB166_177.out _).trans (((cell_far (p := ⟨g9, _, none⟩) NB166_177.out _).trans (hHeld.2.2.2.2.2.1)))))))), ((cell_far (p := ⟨g9, _, none⟩) NB166_177.out _).trans (((cell_far (p := ⟨g9, _, none⟩) NB166_177.out _).trans (((cell_far (p := ⟨g9, _, none⟩) NB166_177.out _).trans (((cell_far (p := ⟨g9, _, none⟩) NB166_177.out _).trans (hHeld.2.2.2.2.2.2))))))))⟩ (fun hHeld => ?_)
  clear hK K
  refine pure_ (i := 10) (N := some 10) (v := ?_) (a' := ?_) #[true, true, true, true, true, true, true, true, true, true, true, false] rfl rfl (any_of HT_.out (by kernel_rfl)) (fun _ _ _ h => h) (Or.inl ⟨by rfl, ?_⟩) ?_ ?_
  rotate_left
  · intro w'
    go_simp
    with_reducible rfl
  rotate_left
  · simp only [Act.put, List.setIfInBounds_toArray, List.set_cons_zero, List.set_cons_succ, i64_w, i32_w]
    rfl
  refine pure_ (i := 11) (N := some 11) (v := ?_) (a' := ?_) #[true, true, true, true, true, true, true, true, true, true, true, true] rfl rfl (any_of HT_.out (by kernel_rfl)) (fun _ _ _ h => h) (Or.inl ⟨by rfl, ?_⟩) ?_ ?_
  rotate_left
  · intro w'
    go_simp
    with_reducible rfl
  rotate_left
  · simp only [Act.put, List.setIfInBounds_toArray, List.set_cons_zero, List.set_cons_succ, i64_w, i32_w]
    rfl
  refine done_ (done_of HT_.out (by kernel_rfl)) ?_
  have X4_0 := Aside0.mk (far4 (.int .i64 t0) (.int .i64 t1) (.int .i64 t2) (.int .i64 t3) BK165.out NB165_177.out)
  have X5_0 := Aside0.mk (far4 (.int .i64 t0) (.int .i64 t1) (.int .i64 t2) (.int .i64 t3) BK166.out NB166_177.out)
  have X9_0 := Aside0.mk (put4 (.int .i64 t0) (.int .i64 t1) (.int .i64 t2) (.int .i64 t3) BK177.out)
  have XB_0 := Aside0.mk (below4 (.int .i64 t0) (.int .i64 t1) (.int .i64 t2) (.int .i64 t3) HB.out GE177.out)
  have HG9 := Aside0.mk GE177.out
  clear hHeld hs15 hfs15 hns15_0 hns15_1 hms15_0 hms15_1 hs16 hfs16 hns16_0 hns16_1 hms16_0 hms16_1 hs17 hfs17 hns17_0 hns17_1 hms17_0 hms17_1 hs18 hfs18 hns18_0 hns18_1 hms18_0 hms18_1
  obtain ⟨w20, hw20⟩ : ∃ v, v = ((((w14.setCell ⟨g9, 0, none⟩ (.int .i64 t0)).setCell ⟨g9, 1, none⟩ (.int .i64 t1)).setCell ⟨g9, 2, none⟩ (.int .i64 t2)).setCell ⟨g9, 3, none⟩ (.int .i64 t3)) := ⟨_, rfl⟩
  rw [← hw20] at X4_0 X5_0 X9_0 XB_0 ⊢
  clear hw20
  have H := H'.out
  clear H'
  unfold snextR at H
  by_cases he : e = 0
  · subst he
    rw [if_pos rfl] at H
    by_cases hh : super_Super_right.f k a0_0 a0_1 a0_2 a0_3 = some true ∧ super_Super_right.f k t0 t1 t2 t3 = some true ∧ leveeref01_Count.f (Int.tmod t0 2) 2 = some p ∧ (p = 0 ∨ p = 1)
    · rw [if_pos hh] at H
      obtain ⟨hRs, hRt, hQ, hp⟩ := hh
      have HRs := Aside0.mk hRs
      have HRt := Aside0.mk hRt
      obtain ⟨z1, hZ1, H⟩ := Option.bind_eq_some_iff.mp H
      obtain ⟨z2, hZ2, H⟩ := Option.bind_eq_some_iff.mp H
      obtain ⟨q, hQ2, H⟩ := Option.bind_eq_some_iff.mp H
      have HZ1 := Aside0.mk hZ1
      have HZ2 := Aside0.mk hZ2
      have HQ2 := Aside0.mk hQ2
      clear hRs hRt hZ1 hZ2 hQ2
      rcases hp with rfl | rfl
      · have HQ := Aside0.mk hQ
        clear hQ
        simp only [if_true] at H
        by_cases hh : super_Choose.f k (superL t0 t1 t2 t3) (superL a0_0 a0_1 a0_2 a0_3) (wrap64 (z1 + z2)) = some (t0, t1, t2, t3, 0, 0) ∧ 0 ≤ q ∧ q < 256
        · rw [if_pos hh] at H
          obtain ⟨hC1, hq0, hq1⟩ := hh
          have HC1 := Aside0.mk hC1
          clear hC1
          have hq0t : (0 ≤ q) = True := eq_true hq0
          have hq1t : (q < 256) = True := eq_true hq1
          have HH := Aside0.mk H
          clear H
          go_wp2_with (first
              | ((with_reducible refine gate_dst (N := 36) rfl ?_); refine make_event ?hg (cs := #[.slice none 0 0, .slice none 0 0]) (t := 26) (n := 2) (c := 2) ?hr ?_; (case hg => rfl); (case hr => first | kernel_rfl | (go_simp; kernel_rfl)); intro gl hgl w21 hx hb; have X4_1 := Aside0.mk (blk_below X4_0.out hb); have X5_1 := Aside0.mk (blk_below X5_0.out hb); have X9_1 := Aside0.mk (blk_below X9_0.out hb); have XB_1 := Aside0.mk (below_step XB_0.out hb); have Xl_1 := Aside0.mk hx; have HGl := Aside0.mk (show w.heap.size ≤ gl by have := XB_0.out.size; omega); have NE4 := Aside0.mk (show g4 ≠ gl by have := blk_lt X4_0.out; omega); have NE5 := Aside0.mk (show g5 ≠ gl by have := blk_lt X5_0.out; omega); have NE9 := Aside0.mk (show g9 ≠ gl by have := blk_lt X9_0.out; omega); clear hb X4_0 X5_0 X9_0 XB_0; clear hx hgl; have c4_1_0 := (blk_cell X4_1.out 0).trans (show _ = some (Value.int .i64 a0_0) from rfl); have f4_1_0 := blk_frozen X4_1.out 0; have c4_1_1 := (blk_cell X4_1.out 1).trans (show _ = some (Value.int .i64 a0_1) from rfl); have f4_1_1 := blk_frozen X4_1.out 1; have c4_1_2 := (blk_cell X4_1.out 2).trans (show _ = some (Value.int .i64 a0_2) from rfl); have f4_1_2 := blk_frozen X4_1.out 2; have c4_1_3 := (blk_cell X4_1.out 3).trans (show _ = some (Value.int .i64 a0_3) from rfl); have f4_1_3 := blk_frozen X4_1.out 3)
              | (go_at_call 8; with_reducible refine (leveelaw04_given.calls a0_0 a0_1 a0_2 a0_3 a0_0 a0_1 a0_2 a0_3 _ A5.out).mono ?_; rintro e w22 ⟨rfl, hb⟩; have X4_2 := Aside0.mk (blk_below X4_1.out hb); have X5_2 := Aside0.mk (blk_below X5_1.out hb); have X9_2 := Aside0.mk (blk_below X9_1.out hb); have Xl_2 := Aside0.mk (blk_below Xl_1.out hb); have XB_2 := Aside0.mk (below_step XB_1.out hb); clear hb X4_1 X5_1 X9_1 Xl_1 XB_1; clear c4_1_0 f4_1_0 c4_1_1 f4_1_1 c4_1_2 f4_1_2 c4_1_3 f4_1_3)
              | (go_at_call 7; with_reducible refine (sput_yes k a0_0 a0_1 a0_2 a0_3 _ HRs.out).mono ?_; rintro e w23 ⟨gx, rfl, hx, hgx, hb⟩; have X4_3 := Aside0.mk (blk_below X4_2.out hb); have X5_3 := Aside0.mk (blk_below X5_2.out hb); have X9_3 := Aside0.mk (blk_below X9_2.out hb); have Xl_3 := Aside0.mk (blk_below Xl_2.out hb); have XB_3 := Aside0.mk (below_step XB_2.out hb); have Xx_3 := Aside0.mk hx; have HNx := Aside0.mk (show gl < gx by have := blk_lt Xl_2.out; omega); clear hb X4_2 X5_2 X9_2 Xl_2 XB_2; clear hx hgx; have c9_3_0 := (blk_cell X9_3.out 0).trans (show _ = some (Value.int .i64 t0) from rfl); have f9_3_0 := blk_frozen X9_3.out 0; have c9_3_1 := (blk_cell X9_3.out 1).trans (show _ = some (Value.int .i64 t1) from rfl); have f9_3_1 := blk_frozen X9_3.out 1; have c9_3_2 := (blk_cell X9_3.out 2).trans (show _ = some (Value.int .i64 t2) from rfl); have f9_3_2 := blk_frozen X9_3.out 2; have c9_3_3 := (blk_cell X9_3.out 3).trans (show _ = some (Value.int .i64 t3) from rfl); have f9_3_3 := blk_frozen X9_3.out 3)
              | (go_at_call 7; with_reducible refine (sput_yes k t0 t1 t2 t3 _ HRt.out).mono ?_; rintro e w24 ⟨gy, rfl, hx, hgy, hb⟩; have X4_4 := Aside0.mk (blk_below X4_3.out hb); have X5_4 := Aside0.mk (blk_below X5_3.out hb); have X9_4 := Aside0.mk (blk_below X9_3.out hb); have Xl_4 := Aside0.mk (blk_below Xl_3.out hb); have Xx_4 := Aside0.mk (blk_below Xx_3.out hb); have XB_4 := Aside0.mk (below_step XB_3.out hb); have Xy_4 := Aside0.mk hx; have HNy := Aside0.mk (show gx < gy by have := blk_lt Xx_3.out; omega); have HGy := Aside0.mk (show w.heap.size ≤ gy by have := XB_3.out.size; omega); have N4y := Aside0.mk (show g4 ≠ gy by have := blk_lt X4_3.out; omega); have N5y := Aside0.mk (show g5 ≠ gy by have := blk_lt X5_3.out; omega); have N9y := Aside0.mk (show g9 ≠ gy by have := blk_lt X9_3.out; omega); clear hb X4_3 X5_3 X9_3 Xl_3 Xx_3 XB_3; clear hx hgy c9_3_0 f9_3_0 c9_3_1 f9_3_1 c9_3_2 f9_3_2 c9_3_3 f9_3_3; have c9_4_0 := (blk_cell X9_4.out 0).trans (show _ = some (Value.int .i64 t0) from rfl); have f9_4_0 := blk_frozen X9_4.out 0)
              | (go_at_call 20; with_reducible refine (count_below HQ.out).mono ?_; rintro e w25 ⟨rfl, hb⟩; have X4_5 := Aside0.mk (blk_below X4_4.out hb); have X5_5 := Aside0.mk (blk_below X5_4.out hb); have X9_5 := Aside0.mk (blk_below X9_4.out hb); have Xl_5 := Aside0.mk (blk_below Xl_4.out hb); have Xx_5 := Aside0.mk (blk_below Xx_4.out hb); have Xy_5 := Aside0.mk (blk_below Xy_4.out hb); have XB_5 := Aside0.mk (below_step XB_4.out hb); clear hb X4_4 X5_4 X9_4 Xl_4 Xx_4 Xy_4 XB_4; clear c9_4_0 f9_4_0; have cl_5_0 := (blk_cell Xl_5.out 0).trans (show _ = some (Value.slice none 0 0) from rfl); have fl_5_0 := blk_frozen Xl_5.out 0; have cl_5_1 := (blk_cell Xl_5.out 1).trans (show _ = some (Value.slice none 0 0) from rfl); have fl_5_1 := blk_frozen Xl_5.out 1))
          have nlx : gl ≠ gx := Nat.ne_of_lt HNx.out
          have nly : gl ≠ gy := Nat.ne_of_lt (Nat.lt_trans HNx.out HNy.out)
          have NEx := Aside0.mk (Ne.symm nlx)
          have NEy := Aside0.mk (Ne.symm nly)
          have x4 := blk_far (p := ⟨gl, 0, none⟩) (blk_far (p := ⟨gl, 1, none⟩) X4_5.out NE4.out (.slice (some ⟨gx, 0, none⟩) 256 256)) NE4.out (.slice (some ⟨gy, 0, none⟩) 256 256)
          have x5 := blk_far (p := ⟨gl, 0, none⟩) (blk_far (p := ⟨gl, 1, none⟩) X5_5.out NE5.out (.slice (some ⟨gx, 0, none⟩) 256 256)) NE5.out (.slice (some ⟨gy, 0, none⟩) 256 256)
          have x9 := blk_far (p := ⟨gl, 0, none⟩) (blk_far (p := ⟨gl, 1, none⟩) X9_5.out NE9.out (.slice (some ⟨gx, 0, none⟩) 256 256)) NE9.out (.slice (some ⟨gy, 0, none⟩) 256 256)
          have xl := blk_put (cs := #[.slice none 0 0, .slice (some ⟨gx, 0, none⟩) 256 256]) (blk_put (cs := #[.slice none 0 0, .slice none 0 0]) Xl_5.out 1 (.slice (some ⟨gx, 0, none⟩) 256 256) rfl) 0 (.slice (some ⟨gy, 0, none⟩) 256 256) rfl
          have xx := blk_far (p := ⟨gl, 0, none⟩) (blk_far (p := ⟨gl, 1, none⟩) Xx_5.out NEx.out (.slice (some ⟨gx, 0, none⟩) 256 256)) NEx.out (.slice (some ⟨gy, 0, none⟩) 256 256)
          have xy := blk_far (p := ⟨gl, 0, none⟩) (blk_far (p := ⟨gl, 1, none⟩) Xy_5.out NEy.out (.slice (some ⟨gx, 0, none⟩) 256 256)) NEy.out (.slice (some ⟨gy, 0, none⟩) 256 256)
          have xb := below_set (j := 0) (v := .slice (some ⟨gy, 0, none⟩) 256 256) (below_set (j := 1) (v := .slice (some ⟨gx, 0, none⟩) 256 256) XB_5.out HGl.out) HGl.out
          obtain ⟨w30, hw30⟩ : ∃ v, v = (w25.setCell ⟨gl, 1, none⟩ (.slice (some ⟨gx, 0, none⟩) 256 256)).setCell ⟨gl, 0, none⟩ (.slice (some ⟨gy, 0, none⟩) 256 256) := ⟨_, rfl⟩
          rw [← hw30] at x4 x5 x9 xl xx xy xb ⊢
          clear hw30 X4_5 X5_5 X9_5 Xl_5 Xx_5 Xy_5 XB_5 cl_5_0 fl_5_0 cl_5_1 fl_5_1
          have X4_d := Aside0.mk (blk_drew x4)
          have X5_d := Aside0.mk (blk_drew x5)
          have X9_d := Aside0.mk (blk_drew x9)
          have Xl_d := Aside0.mk (blk_drew xl)
          have Xx_d := Aside0.mk (blk_drew xx)
          have Xy_d := Aside0.mk (blk_drew xy)
          have XB_d := Aside0.mk (below_drew xb)
          clear x4 x5 x9 xl xx xy xb
          have c4_d_0 := (blk_cell X4_d.out 0).trans (show _ = some (Value.int .i64 a0_0) from rfl); have f4_d_0 := blk_frozen X4_d.out 0; have c4_d_1 := (blk_cell X4_d.out 1).trans (show _ = some (Value.int .i64 a0_1) from rfl); have f4_d_1 := blk_frozen X4_d.out 1; have c4_d_2 := (blk_cell X4_d.out 2).trans (show _ = some (Value.int .i64 a0_2) from rfl); have f4_d_2 := blk_frozen X4_d.out 2; have c4_d_3 := (blk_cell X4_d.out 3).trans (show _ = some (Value.int .i64 a0_3) from rfl); have f4_d_3 := blk_frozen X4_d.out 3
          have c5_d_0 := (blk_cell X5_d.out 0).trans (show _ = some (Value.int .i64 a1_0) from rfl); have f5_d_0 := blk_frozen X5_d.out 0; have c5_d_1 := (blk_cell X5_d.out 1).trans (show _ = some (Value.int .i64 a1_1) from rfl); have f5_d_1 := blk_frozen X5_d.out 1; have c5_d_2 := (blk_cell X5_d.out 2).trans (show _ = some (Value.int .i64 a1_2) from rfl); have f5_d_2 := blk_frozen X5_d.out 2
          go_region_with (first | (go_at_call 21; with_reducible refine (leveeref03_Size.calls a1_0 a1_1 a1_2 z1 _ HZ1.out).mono ?_; rintro e wa ⟨rfl, hb⟩; have X4_a := Aside0.mk (blk_below X4_d.out hb); have X5_a := Aside0.mk (blk_below X5_d.out hb); have X9_a := Aside0.mk (blk_below X9_d.out hb); have Xl_a := Aside0.mk (blk_below Xl_d.out hb); have Xx_a := Aside0.mk (blk_below Xx_d.out hb); have Xy_a := Aside0.mk (blk_below Xy_d.out hb); have XB_a := Aside0.mk (below_step XB_d.out hb); clear hb X4_d X5_d X9_d Xl_d Xx_d Xy_d XB_d; have c4_a_0 := (blk_cell X4_a.out 0).trans (show _ = some (Value.int .i64 a0_0) from rfl); have f4_a_0 := blk_frozen X4_a.out 0; have c4_a_1 := (blk_cell X4_a.out 1).trans (show _ = some (Value.int .i64 a0_1) from rfl); have f4_a_1 := blk_frozen X4_a.out 1; have c4_a_2 := (blk_cell X4_a.out 2).trans (show _ = some (Value.int .i64 a0_2) from rfl); have f4_a_2 := blk_frozen X4_a.out 2; have c4_a_3 := (blk_cell X4_a.out 3).trans (show _ = some (Value.int .i64 a0_3) from rfl); have f4_a_3 := blk_frozen X4_a.out 3; have c5_a_0 := (blk_cell X5_a.out 0).trans (show _ = some (Value.int .i64 a1_0) from rfl); have f5_a_0 := blk_frozen X5_a.out 0; have c5_a_1 := (blk_cell X5_a.out 1).trans (show _ = some (Value.int .i64 a1_1) from rfl); have f5_a_1 := blk_frozen X5_a.out 1; have c5_a_2 := (blk_cell X5_a.out 2).trans (show _ = some (Value.int .i64 a1_2) from rfl); have f5_a_2 := blk_frozen X5_a.out 2) | (go_at_call 21; with_reducible refine (leveeref03_Size.calls a0_1 a0_2 a0_3 z2 _ HZ2.out).mono ?_; rintro e wa ⟨rfl, hb⟩; have X4_a := Aside0.mk (blk_below X4_d.out hb); have X5_a := Aside0.mk (blk_below X5_d.out hb); have X9_a := Aside0.mk (blk_below X9_d.out hb); have Xl_a := Aside0.mk (blk_below Xl_d.out hb); have Xx_a := Aside0.mk (blk_below Xx_d.out hb); have Xy_a := Aside0.mk (blk_below Xy_d.out hb); have XB_a := Aside0.mk (below_step XB_d.out hb); clear hb X4_d X5_d X9_d Xl_d Xx_d Xy_d XB_d; have c4_a_0 := (blk_cell X4_a.out 0).trans (show _ = some (Value.int .i64 a0_0) from rfl); have f4_a_0 := blk_frozen X4_a.out 0; have c4_a_1 := (blk_cell X4_a.out 1).trans (show _ = some (Value.int .i64 a0_1) from rfl); have f4_a_1 := blk_frozen X4_a.out 1; have c4_a_2 := (blk_cell X4_a.out 2).trans (show _ = some (Value.int .i64 a0_2) from rfl); have f4_a_2 := blk_frozen X4_a.out 2; have c4_a_3 := (blk_cell X4_a.out 3).trans (show _ = some (Value.int .i64 a0_3) from rfl); have f4_a_3 := blk_frozen X4_a.out 3; have c5_a_0 := (blk_cell X5_a.out 0).trans (show _ = some (Value.int .i64 a1_0) from rfl); have f5_a_0 := blk_frozen X5_a.out 0; have c5_a_1 := (blk_cell X5_a.out 1).trans (show _ = some (Value.int .i64 a1_1) from rfl); have f5_a_1 := blk_frozen X5_a.out 1; have c5_a_2 := (blk_cell X5_a.out 2).trans (show _ = some (Value.int .i64 a1_2) from rfl); have f5_a_2 := blk_frozen X5_a.out 2) | (go_at_call 21; with_reducible refine (leveeref03_Size.calls a1_0 a1_1 a1_2 z1 _ HZ1.out).mono ?_; rintro e wb ⟨rfl, hb⟩; have X4_b := Aside0.mk (blk_below X4_a.out hb); have X5_b := Aside0.mk (blk_below X5_a.out hb); have X9_b := Aside0.mk (blk_below X9_a.out hb); have Xl_b := Aside0.mk (blk_below Xl_a.out hb); have Xx_b := Aside0.mk (blk_below Xx_a.out hb); have Xy_b := Aside0.mk (blk_below Xy_a.out hb); have XB_b := Aside0.mk (below_step XB_a.out hb); clear hb X4_a X5_a X9_a Xl_a Xx_a Xy_a XB_a; have c4_b_0 := (blk_cell X4_b.out 0).trans (show _ = some (Value.int .i64 a0_0) from rfl); have f4_b_0 := blk_frozen X4_b.out 0; have c4_b_1 := (blk_cell X4_b.out 1).trans (show _ = some (Value.int .i64 a0_1) from rfl); have f4_b_1 := blk_frozen X4_b.out 1; have c4_b_2 := (blk_cell X4_b.out 2).trans (show _ = some (Value.int .i64 a0_2) from rfl); have f4_b_2 := blk_frozen X4_b.out 2; have c4_b_3 := (blk_cell X4_b.out 3).trans (show _ = some (Value.int .i64 a0_3) from rfl); have f4_b_3 := blk_frozen X4_b.out 3; have c5_b_0 := (blk_cell X5_b.out 0).trans (show _ = some (Value.int .i64 a1_0) from rfl); have f5_b_0 := blk_frozen X5_b.out 0; have c5_b_1 := (blk_cell X5_b.out 1).trans (show _ = some (Value.int .i64 a1_1) from rfl); have f5_b_1 := blk_frozen X5_b.out 1; have c5_b_2 := (blk_cell X5_b.out 2).trans (show _ = some (Value.int .i64 a1_2) from rfl); have f5_b_2 := blk_frozen X5_b.out 2; have cl_b_0 := (blk_cell Xl_b.out 0).trans (show _ = some (Value.slice (some ⟨gy, 0, none⟩) 256 256) from rfl); have fl_b_0 := blk_frozen Xl_b.out 0; have cl_b_1 := (blk_cell Xl_b.out 1).trans (show _ = some (Value.slice (some ⟨gx, 0, none⟩) 256 256) from rfl); have fl_b_1 := blk_frozen Xl_b.out 1) | (go_at_call 21; with_reducible refine (leveeref03_Size.calls a0_1 a0_2 a0_3 z2 _ HZ2.out).mono ?_; rintro e wb ⟨rfl, hb⟩; have X4_b := Aside0.mk (blk_below X4_a.out hb); have X5_b := Aside0.mk (blk_below X5_a.out hb); have X9_b := Aside0.mk (blk_below X9_a.out hb); have Xl_b := Aside0.mk (blk_below Xl_a.out hb); have Xx_b := Aside0.mk (blk_below Xx_a.out hb); have Xy_b := Aside0.mk (blk_below Xy_a.out hb); have XB_b := Aside0.mk (below_step XB_a.out hb); clear hb X4_a X5_a X9_a Xl_a Xx_a Xy_a XB_a; have c4_b_0 := (blk_cell X4_b.out 0).trans (show _ = some (Value.int .i64 a0_0) from rfl); have f4_b_0 := blk_frozen X4_b.out 0; have c4_b_1 := (blk_cell X4_b.out 1).trans (show _ = some (Value.int .i64 a0_1) from rfl); have f4_b_1 := blk_frozen X4_b.out 1; have c4_b_2 := (blk_cell X4_b.out 2).trans (show _ = some (Value.int .i64 a0_2) from rfl); have f4_b_2 := blk_frozen X4_b.out 2; have c4_b_3 := (blk_cell X4_b.out 3).trans (show _ = some (Value.int .i64 a0_3) from rfl); have f4_b_3 := blk_frozen X4_b.out 3; have c5_b_0 := (blk_cell X5_b.out 0).trans (show _ = some (Value.int .i64 a1_0) from rfl); have f5_b_0 := blk_frozen X5_b.out 0; have c5_b_1 := (blk_cell X5_b.out 1).trans (show _ = some (Value.int .i64 a1_1) from rfl); have f5_b_1 := blk_frozen X5_b.out 1; have c5_b_2 := (blk_cell X5_b.out 2).trans (show _ = some (Value.int .i64 a1_2) from rfl); have f5_b_2 := blk_frozen X5_b.out 2; have cl_b_0 := (blk_cell Xl_b.out 0).trans (show _ = some (Value.slice (some ⟨gy, 0, none⟩) 256 256) from rfl); have fl_b_0 := blk_frozen Xl_b.out 0; have cl_b_1 := (blk_cell Xl_b.out 1).trans (show _ = some (Value.slice (some ⟨gx, 0, none⟩) 256 256) from rfl); have fl_b_1 := blk_frozen Xl_b.out 1))
          all_goals go_wp2
          all_goals
            clear c4_d_0 f4_d_0 c4_d_1 f4_d_1 c4_d_2 f4_d_2 c4_d_3 f4_d_3 c4_a_0 f4_a_0 c4_a_1 f4_a_1 c4_a_2 f4_a_2 c4_a_3 f4_a_3 c5_d_0 f5_d_0 c5_d_1 f5_d_1 c5_d_2 f5_d_2 c5_a_0 f5_a_0 c5_a_1 f5_a_1 c5_a_2 f5_a_2
            clear c4_b_0 f4_b_0 c4_b_1 f4_b_1 c4_b_2 f4_b_2 c4_b_3 f4_b_3 c5_b_0 f5_b_0 c5_b_1 f5_b_1 c5_b_2 f5_b_2 cl_b_0 fl_b_0 cl_b_1 fl_b_1
            have X4_bd := Aside0.mk (blk_drew X4_b.out)
            have X5_bd := Aside0.mk (blk_drew X5_b.out)
            have X9_bd := Aside0.mk (blk_drew X9_b.out)
            have Xl_bd := Aside0.mk (blk_drew Xl_b.out)
            have Xx_bd := Aside0.mk (blk_drew Xx_b.out)
            have Xy_bd := Aside0.mk (blk_drew Xy_b.out)
            have XB_bd := Aside0.mk (below_drew XB_b.out)
            clear X4_b X5_b X9_b Xl_b Xx_b Xy_b XB_b
            refine start_ (n := 16) (S := fun w' => w'.cell? ⟨gl, 0, none⟩ = some (.slice (some ⟨gy, 0, none⟩) 256 256) ∧ w'.cell? ⟨gl, 1, none⟩ = some (.slice (some ⟨gx, 0, none⟩) 256 256)) (ds := []) #[false, false, false, false, false, false, false, false, false, false, false, false, false, false, false, false] (by kernel_rfl) rfl rfl ⟨(blk_cell Xl_bd.out 0).trans rfl, (blk_cell Xl_bd.out 1).trans rfl⟩ (fun hHeld => ?_)
            refine with_tabW leveelaw04_SuperNext.tab12 leveelaw04_SuperNext.bits12 (fun HT_ HW_ => ?_)
            generalize wb.drew = w12_0 at X4_bd X5_bd X9_bd Xl_bd Xx_bd Xy_bd XB_bd hHeld ⊢
            refine norm_ (a' := ?_) ?_ ?_
            rotate_left
            · simp only [Act.put, List.getElem_toArray, List.getElem_cons_succ, List.getElem_cons_zero, List.setIfInBounds_toArray, List.set_cons_zero, List.set_cons_succ, i64_w]
              rfl
            refine pure_ (i := 0) (N := some 78) (v := ?_) (a' := ?_) #[true, false, false, false, false, false, false, false, false, false, false, false, false, false, false, false] rfl rfl (any_of HT_.out (by kernel_rfl)) (fun _ _ _ h => h) (Or.inl ⟨by rfl, ?_⟩) ?_ ?_
            rotate_left
            · intro w'
              go_simp
              with_reducible rfl
            rotate_left
            · simp only [Act.put, List.setIfInBounds_toArray, List.set_cons_zero, List.set_cons_succ, i64_w, i32_w]
              rfl
            refine pure_ (i := 1) (N := some 79) (v := ?_) (a' := ?_) #[true, true, false, false, false, false, false, false, false, false, false, false, false, false, false, false] rfl rfl (any_of HT_.out (by kernel_rfl)) (fun _ _ _ h => h) (Or.inl ⟨by rfl, ?_⟩) ?_ ?_
            rotate_left
            · intro w'
              go_simp
              with_reducible rfl
            rotate_left
            · simp only [Act.put, List.setIfInBounds_toArray, List.set_cons_zero, List.set_cons_succ, i64_w, i32_w]
              rfl
            refine take_ (i := 2) (N := some 80) (v := ?_) (a' := ?_) #[true, true, true, false, false, false, false, false, false, false, false, false, false, false, false, false] rfl rfl (take_ofW HT_.out HW_.out (by kernel_rfl)) (fun _ _ _ h => h) (Or.inl ⟨by rfl, ?_⟩) hHeld ?_ ?_
            rotate_left
            · rintro w' ⟨s0, s1⟩
              go_simp
              with_reducible rfl
            rotate_left
            · simp only [Act.put, List.setIfInBounds_toArray, List.set_cons_zero, List.set_cons_succ, i64_w, i32_w]
              rfl
            refine pure_ (i := 3) (N := some 81) (v := ?_) (a' := ?_) #[true, true, true, true, false, false, false, false, false, false, false, false, false, false, false, false] rfl rfl (any_of HT_.out (by kernel_rfl)) (fun _ _ _ h => h) (Or.inl ⟨by rfl, ?_⟩) ?_ ?_
            rotate_left
            · intro w'
              go_simp
              with_reducible rfl
            rotate_left
            · simp only [Act.put, List.setIfInBounds_toArray, List.set_cons_zero, List.set_cons_succ, i64_w, i32_w]
              rfl
            refine pure_ (i := 4) (N := some 82) (v := ?_) (a' := ?_) #[true, true, true, true, true, false, false, false, false, false, false, false, false, false, false, false] rfl rfl (any_of HT_.out (by kernel_rfl)) (fun _ _ _ h => h) (Or.inl ⟨by rfl, ?_⟩) ?_ ?_
            rotate_left
            · intro w'
              go_simp
              with_reducible rfl
            rotate_left
            · simp only [Act.put, List.setIfInBounds_toArray, List.set_cons_zero, List.set_cons_succ, i64_w, i32_w]
              rfl
            refine take_ (i := 5) (N := some 83) (v := ?_) (a' := ?_) #[true, true, true, true, true, true, false, false, false, false, false, false, false, false, false, false] rfl rfl (take_ofW HT_.out HW_.out (by kernel_rfl)) (fun _ _ _ h => h) (Or.inl ⟨by rfl, ?_⟩) hHeld ?_ ?_
            rotate_left
            · rintro w' ⟨s0, s1⟩
              go_simp
              with_reducible rfl
            rotate_left
            · simp only [Act.put, List.setIfInBounds_toArray, List.set_cons_zero, List.set_cons_succ, i64_w, i32_w]
              rfl
            refine pure_ (i := 6) (N := some 84) (v := ?_) (a' := ?_) #[true, true, true, true, true, true, true, false, false, false, false, false, false, false, false, false] rfl rfl (any_of HT_.out (by kernel_rfl)) (fun _ _ _ h => h) (Or.inl ⟨by rfl, ?_⟩) ?_ ?_
            rotate_left
            · intro w'
              go_simp
              with_reducible rfl
            rotate_left
            · simp only [Act.put, List.setIfInBounds_toArray, List.set_cons_zero, List.set_cons_succ, i64_w, i32_w]
              rfl
            refine join_ (σ := Nat) 3 #[true, true, true, true, true, true, true, true, true, true, true, true, true, false, false, false] (fun s_ => [(85, .tuple #[.agg #[.int .i64 t0, .int .i64 t1, .int .i64 t2, .int .i64 t3], .int .i64 0, .int .i64 0]), (18, .pointer (some ⟨s_, 0, none⟩)), (77, .tuple #[.agg #[.int .i64 t0, .int .i64 t1, .int .i64 t2, .int .i64 t3], .int .i64 0, .int .i64 0]), (86, .agg #[.int .i64 t0, .int .i64 t1, .int .i64 t2, .int .i64 t3]), (87, .int .i64 0), (88, .int .i64 0)]) (fun s_ w' => (w'.cell? ⟨gl, 0, none⟩ = some (.slice (some ⟨gy, 0, none⟩) 256 256) ∧ w'.cell? ⟨gl, 1, none⟩ = some (.slice (some ⟨gx, 0, none⟩) 256 256)) ∧ (w'.heap[g4]? = some (.cells #[.int .i64 a0_0, .int .i64 a0_1, .int .i64 a0_2, .int .i64 a0_3] 25 (0, 0))) ∧ (w'.heap[g5]? = some (.cells #[.int .i64 a1_0, .int .i64 a1_1, .int .i64 a1_2] 23 (0, 0))) ∧ (w'.heap[g9]? = some (.cells #[.int .i64 t0, .int .i64 t1, .int .i64 t2, .int .i64 t3] 30 (0, 0))) ∧ (w'.heap[gl]? = some (.cells #[.slice (some ⟨gy, 0, none⟩) 256 256, .slice (some ⟨gx, 0, none⟩) 256 256] 26 (0, 0))) ∧ (w'.heap[gx]? = some (.cells (nums .u8 (superL a0_0 a0_1 a0_2 a0_3)).toArray 54 (0, 0))) ∧ (w'.heap[gy]? = some (.cells (nums .u8 (superL t0 t1 t2 t3)).toArray 54 (0, 0))) ∧ (w'.heap[s_]? = some (.cells #[.int .i64 0, .int .i64 0, .int .i64 0, .int .i64 0] 30 (0, 0))) ∧ (w.heap.size ≤ s_) ∧ (g4 ≠ s_) ∧ (g5 ≠ s_) ∧ (g9 ≠ s_) ∧ (gl ≠ s_) ∧ (gx ≠ s_) ∧ (gy ≠ s_) ∧ (Below w.heap.size w w')) ?_ ?_
            rotate_left
            · intro hCont
              refine two_ (i := 7) (j := 12) (Ni := some 85) (Nj := some 18) #[true, true, true, true, true, true, true, true, false, false, false, false, false, false, false, false] #[true, true, true, true, true, true, true, false, false, false, false, false, true, false, false, false] rfl rfl rfl rfl (two_of HT_.out (by kernel_rfl)) (by decide) (by decide) (fun K hK => ?_) (fun K hK => ?_)
              · skip
                refine goes_ Try.func16 (by kernel_rfl) rfl #[.slice (some ⟨gy, 0, none⟩) 256 256, .slice (some ⟨gx, 0, none⟩) 256 256, .int .i64 (wrap64 (z1 + z2))] (by rfl) rfl rfl (by (try simp only [List.map_toArray, List.map_cons, List.map_nil]); first | done | rfl) ?_
                with_reducible refine (choose_at k gy gx (superL t0 t1 t2 t3) (superL a0_0 a0_1 a0_2 a0_3) (superL_length _ _ _ _) (superL_length _ _ _ _) _ t0 t1 t2 t3 0 0 _ Xy_bd.out Xx_bd.out HC1.out).mono ?_
                rintro e w12_1 ⟨rfl, hb⟩
                refine ⟨_, rfl, ?_⟩
                have X4_be := Aside0.mk (blk_below X4_bd.out hb)
                have X5_be := Aside0.mk (blk_below X5_bd.out hb)
                have X9_be := Aside0.mk (blk_below X9_bd.out hb)
                have Xl_be := Aside0.mk (blk_below Xl_bd.out hb)
                have Xx_be := Aside0.mk (blk_below Xx_bd.out hb)
                have Xy_be := Aside0.mk (blk_below Xy_bd.out hb)
                have XB_be := Aside0.mk (below_step XB_bd.out hb)
                clear hb X4_bd X5_bd X9_bd Xl_bd Xx_bd Xy_bd XB_bd
                refine hK.out _ _ ⟨(blk_cell Xl_be.out 0).trans rfl, (blk_cell Xl_be.out 1).trans rfl⟩ (fun hHeld => ?_)
                clear hK K
                refine norm_ (a' := ?_) ?_ ?_
                rotate_left
                · show Act.put _ (some 85) _ = _
                  simp only [Act.put, List.setIfInBounds_toArray, List.set_cons_zero, List.set_cons_succ, i64_w, i32_w]
                  rfl
                refine pure_ (i := 8) (N := some 77) (v := ?_) (a' := ?_) #[true, true, true, true, true, true, true, true, true, false, false, false, false, false, false, false] rfl rfl (any_of HT_.out (by kernel_rfl)) (fun _ _ _ h => h) (Or.inl ⟨by rfl, ?_⟩) ?_ ?_
                rotate_left
                · intro w'
                  go_simp
                  with_reducible rfl
                rotate_left
                · simp only [Act.put, List.setIfInBounds_toArray, List.set_cons_zero, List.set_cons_succ, i64_w, i32_w]
                  rfl
                refine pure_ (i := 9) (N := some 86) (v := ?_) (a' := ?_) #[true, true, true, true, true, true, true, true, true, true, false, false, false, false, false, false] rfl rfl (any_of HT_.out (by kernel_rfl)) (fun _ _ _ h => h) (Or.inl ⟨by rfl, ?_⟩) ?_ ?_
                rotate_left
                · intro w'
                  go_simp
                  with_reducible rfl
                rotate_left
                · simp only [Act.put, List.setIfInBounds_toArray, List.set_cons_zero, List.set_cons_succ, i64_w, i32_w]
                  rfl
                refine pure_ (i := 10) (N := some 87) (v := ?_) (a' := ?_) #[true, true, true, true, true, true, true, true, true, true, true, false, false, false, false, false] rfl rfl (any_of HT_.out (by kernel_rfl)) (fun _ _ _ h => h) (Or.inl ⟨by rfl, ?_⟩) ?_ ?_
                rotate_left
                · intro w'
                  go_simp
                  with_reducible rfl
                rotate_left
                · simp only [Act.put, List.setIfInBounds_toArray, List.set_cons_zero, List.set_cons_succ, i64_w, i32_w]
                  rfl
                refine pure_ (i := 11) (N := some 88) (v := ?_) (a' := ?_) #[true, true, true, true, true, true, true, true, true, true, true, true, false, false, false, false] rfl rfl (any_of HT_.out (by kernel_rfl)) (fun _ _ _ h => h) (Or.inl ⟨by rfl, ?_⟩) ?_ ?_
                rotate_left
                · intro w'
                  go_simp
                  with_reducible rfl
                rotate_left
                · simp only [Act.put, List.setIfInBounds_toArray, List.set_cons_zero, List.set_cons_succ, i64_w, i32_w]
                  rfl
                refine one_ (i := 12) (N := some 18) #[true, true, true, true, true, true, true, true, true, true, true, true, true, false, false, false] rfl rfl (one_of HT_.out (by kernel_rfl)) (by decide) (fun K hK => ?_)
                refine box_step ?hg (N := 18) ?hd (cs := #[.int .i64 0, .int .i64 0, .int .i64 0, .int .i64 0]) (t := 30) ?hr ?_; (case hd => rfl); (case hg => rfl); (case hr => first | (go_simp; done) | (go_simp; rfl))
                intro g18 hg w12_2 hbox hb
                have N4_g18 := Aside0.mk (show g4 ≠ g18 by have := blk_lt X4_be.out; omega)
                have N5_g18 := Aside0.mk (show g5 ≠ g18 by have := blk_lt X5_be.out; omega)
                have N9_g18 := Aside0.mk (show g9 ≠ g18 by have := blk_lt X9_be.out; omega)
                have Nl_g18 := Aside0.mk (show gl ≠ g18 by have := blk_lt Xl_be.out; omega)
                have Nx_g18 := Aside0.mk (show gx ≠ g18 by have := blk_lt Xx_be.out; omega)
                have Ny_g18 := Aside0.mk (show gy ≠ g18 by have := blk_lt Xy_be.out; omega)
                have HG_g18 := Aside0.mk (show w.heap.size ≤ g18 by have := XB_be.out.size; omega)
                have X4_bef := Aside0.mk (blk_below X4_be.out hb)
                have X5_bef := Aside0.mk (blk_below X5_be.out hb)
                have X9_bef := Aside0.mk (blk_below X9_be.out hb)
                have Xl_bef := Aside0.mk (blk_below Xl_be.out hb)
                have Xx_bef := Aside0.mk (blk_below Xx_be.out hb)
                have Xy_bef := Aside0.mk (blk_below Xy_be.out hb)
                have XB_bef := Aside0.mk (below_step XB_be.out hb)
                clear hb X4_be X5_be X9_be Xl_be Xx_be Xy_be XB_be
                have X18_bef := Aside0.mk hbox
                clear hbox hg
                refine hK.out _ _ ⟨(blk_cell Xl_bef.out 0).trans rfl, (blk_cell Xl_bef.out 1).trans rfl⟩ (fun hHeld => ?_)
                clear hK K
                refine norm_ (a' := ?_) ?_ ?_
                rotate_left
                · show Act.put _ (some 18) _ = _
                  simp only [Act.put, List.setIfInBounds_toArray, List.set_cons_zero, List.set_cons_succ, i64_w, i32_w]
                  rfl
                exact norm_ (by simp only [putAll, Act.put, List.setIfInBounds_toArray, List.set_cons_zero, List.set_cons_succ]) (hCont (g18) _ ⟨hHeld, X4_bef.out, X5_bef.out, X9_bef.out, Xl_bef.out, Xx_bef.out, Xy_bef.out, X18_bef.out, HG_g18.out, N4_g18.out, N5_g18.out, N9_g18.out, Nl_g18.out, Nx_g18.out, Ny_g18.out, XB_bef.out⟩)
              · skip
                refine box_step ?hg (N := 18) ?hd (cs := #[.int .i64 0, .int .i64 0, .int .i64 0, .int .i64 0]) (t := 30) ?hr ?_; (case hd => rfl); (case hg => rfl); (case hr => first | (go_simp; done) | (go_simp; rfl))
                intro g18 hg w12_1 hbox hb
                have N4_g18 := Aside0.mk (show g4 ≠ g18 by have := blk_lt X4_bd.out; omega)
                have N5_g18 := Aside0.mk (show g5 ≠ g18 by have := blk_lt X5_bd.out; omega)
                have N9_g18 := Aside0.mk (show g9 ≠ g18 by have := blk_lt X9_bd.out; omega)
                have Nl_g18 := Aside0.mk (show gl ≠ g18 by have := blk_lt Xl_bd.out; omega)
                have Nx_g18 := Aside0.mk (show gx ≠ g18 by have := blk_lt Xx_bd.out; omega)
                have Ny_g18 := Aside0.mk (show gy ≠ g18 by have := blk_lt Xy_bd.out; omega)
                have HG_g18 := Aside0.mk (show w.heap.size ≤ g18 by have := XB_bd.out.size; omega)
                have X4_be := Aside0.mk (blk_below X4_bd.out hb)
                have X5_be := Aside0.mk (blk_below X5_bd.out hb)
                have X9_be := Aside0.mk (blk_below X9_bd.out hb)
                have Xl_be := Aside0.mk (blk_below Xl_bd.out hb)
                have Xx_be := Aside0.mk (blk_below Xx_bd.out hb)
                have Xy_be := Aside0.mk (blk_below Xy_bd.out hb)
                have XB_be := Aside0.mk (below_step XB_bd.out hb)
                clear hb X4_bd X5_bd X9_bd Xl_bd Xx_bd Xy_bd XB_bd
                have X18_be := Aside0.mk hbox
                clear hbox hg
                refine hK.out _ _ ⟨(blk_cell Xl_be.out 0).trans rfl, (blk_cell Xl_be.out 1).trans rfl⟩ (fun hHeld => ?_)
                clear hK K
                refine norm_ (a' := ?_) ?_ ?_
                rotate_left
                · show Act.put _ (some 18) _ = _
                  simp only [Act.put, List.setIfInBounds_toArray, List.set_cons_zero, List.set_cons_succ, i64_w, i32_w]
                  rfl
                refine one_ (i := 7) (N := some 85) #[true, true, true, true, true, true, true, true, false, false, false, false, true, false, false, false] rfl rfl (one_of HT_.out (by kernel_rfl)) (by decide) (fun K hK => ?_)
                refine goes_ Try.func16 (by kernel_rfl) rfl #[.slice (some ⟨gy, 0, none⟩) 256 256, .slice (some ⟨gx, 0, none⟩) 256 256, .int .i64 (wrap64 (z1 + z2))] (by rfl) rfl rfl (by (try simp only [List.map_toArray, List.map_cons, List.map_nil]); first | done | rfl) ?_
                with_reducible refine (choose_at k gy gx (superL t0 t1 t2 t3) (superL a0_0 a0_1 a0_2 a0_3) (superL_length _ _ _ _) (superL_length _ _ _ _) _ t0 t1 t2 t3 0 0 _ Xy_be.out Xx_be.out HC1.out).mono ?_
                rintro e w12_2 ⟨rfl, hb⟩
                refine ⟨_, rfl, ?_⟩
                have X4_bef := Aside0.mk (blk_below X4_be.out hb)
                have X5_bef := Aside0.mk (blk_below X5_be.out hb)
                have X9_bef := Aside0.mk (blk_below X9_be.out hb)
                have Xl_bef := Aside0.mk (blk_below Xl_be.out hb)
                have Xx_bef := Aside0.mk (blk_below Xx_be.out hb)
                have Xy_bef := Aside0.mk (blk_below Xy_be.out hb)
                have X18_bef := Aside0.mk (blk_below X18_be.out hb)
                have XB_bef := Aside0.mk (below_step XB_be.out hb)
                clear hb X4_be X5_be X9_be Xl_be Xx_be Xy_be X18_be XB_be
                refine hK.out _ _ ⟨(blk_cell Xl_bef.out 0).trans rfl, (blk_cell Xl_bef.out 1).trans rfl⟩ (fun hHeld => ?_)
                clear hK K
                refine norm_ (a' := ?_) ?_ ?_
                rotate_left
                · show Act.put _ (some 85) _ = _
                  simp only [Act.put, List.setIfInBounds_toArray, List.set_cons_zero, List.set_cons_succ, i64_w, i32_w]
                  rfl
                refine pure_ (i := 8) (N := some 77) (v := ?_) (a' := ?_) #[true, true, true, true, true, true, true, true, true, false, false, false, true, false, false, false] rfl rfl (any_of HT_.out (by kernel_rfl)) (fun _ _ _ h => h) (Or.inl ⟨by rfl, ?_⟩) ?_ ?_
                rotate_left
                · intro w'
                  go_simp
                  with_reducible rfl
                rotate_left
                · simp only [Act.put, List.setIfInBounds_toArray, List.set_cons_zero, List.set_cons_succ, i64_w, i32_w]
                  rfl
                refine pure_ (i := 9) (N := some 86) (v := ?_) (a' := ?_) #[true, true, true, true, true, true, true, true, true, true, false, false, true, false, false, false] rfl rfl (any_of HT_.out (by kernel_rfl)) (fun _ _ _ h => h) (Or.inl ⟨by rfl, ?_⟩) ?_ ?_
                rotate_left
                · intro w'
                  go_simp
                  with_reducible rfl
                rotate_left
                · simp only [Act.put, List.setIfInBounds_toArray, List.set_cons_zero, List.set_cons_succ, i64_w, i32_w]
                  rfl
                refine pure_ (i := 10) (N := some 87) (v := ?_) (a' := ?_) #[true, true, true, true, true, true, true, true, true, true, true, false, true, false, false, false] rfl rfl (any_of HT_.out (by kernel_rfl)) (fun _ _ _ h => h) (Or.inl ⟨by rfl, ?_⟩) ?_ ?_
                rotate_left
                · intro w'
                  go_simp
                  with_reducible rfl
                rotate_left
                · simp only [Act.put, List.setIfInBounds_toArray, List.set_cons_zero, List.set_cons_succ, i64_w, i32_w]
                  rfl
                refine pure_ (i := 11) (N := some 88) (v := ?_) (a' := ?_) #[true, true, true, true, true, true, true, true, true, true, true, true, true, false, false, false] rfl rfl (any_of HT_.out (by kernel_rfl)) (fun _ _ _ h => h) (Or.inl ⟨by rfl, ?_⟩) ?_ ?_
                rotate_left
                · intro w'
                  go_simp
                  with_reducible rfl
                rotate_left
                · simp only [Act.put, List.setIfInBounds_toArray, List.set_cons_zero, List.set_cons_succ, i64_w, i32_w]
                  rfl
                exact norm_ (by simp only [putAll, Act.put, List.setIfInBounds_toArray, List.set_cons_zero, List.set_cons_succ]) (hCont (g18) _ ⟨hHeld, X4_bef.out, X5_bef.out, X9_bef.out, Xl_bef.out, Xx_bef.out, Xy_bef.out, X18_bef.out, HG_g18.out, N4_g18.out, N5_g18.out, N9_g18.out, Nl_g18.out, Nx_g18.out, Ny_g18.out, XB_bef.out⟩)
            clear X4_bd X5_bd X9_bd Xl_bd Xx_bd Xy_bd XB_bd hHeld
            rintro g18 w12_j ⟨hS_, h0_, h1_, h2_, h3_, h4_, h5_, h6_, h7_, h8_, h9_, h10_, h11_, h12_, h13_, h14_⟩
            have X4_bg : Aside0 (w12_j.heap[g4]? = some (.cells #[.int .i64 a0_0, .int .i64 a0_1, .int .i64 a0_2, .int .i64 a0_3] 25 (0, 0))) := ⟨h0_⟩
            have X5_bg : Aside0 (w12_j.heap[g5]? = some (.cells #[.int .i64 a1_0, .int .i64 a1_1, .int .i64 a1_2] 23 (0, 0))) := ⟨h1_⟩
            have X9_bg : Aside0 (w12_j.heap[g9]? = some (.cells #[.int .i64 t0, .int .i64 t1, .int .i64 t2, .int .i64 t3] 30 (0, 0))) := ⟨h2_⟩
            have Xl_bg : Aside0 (w12_j.heap[gl]? = some (.cells #[.slice (some ⟨gy, 0, none⟩) 256 256, .slice (some ⟨gx, 0, none⟩) 256 256] 26 (0, 0))) := ⟨h3_⟩
            have Xx_bg : Aside0 (w12_j.heap[gx]? = some (.cells (nums .u8 (superL a0_0 a0_1 a0_2 a0_3)).toArray 54 (0, 0))) := ⟨h4_⟩
            have Xy_bg : Aside0 (w12_j.heap[gy]? = some (.cells (nums .u8 (superL t0 t1 t2 t3)).toArray 54 (0, 0))) := ⟨h5_⟩
            have X18_bg : Aside0 (w12_j.heap[g18]? = some (.cells #[.int .i64 0, .int .i64 0, .int .i64 0, .int .i64 0] 30 (0, 0))) := ⟨h6_⟩
            have HG_g18 : Aside0 (w.heap.size ≤ g18) := ⟨h7_⟩
            have N4_g18 : Aside0 (g4 ≠ g18) := ⟨h8_⟩
            have N5_g18 : Aside0 (g5 ≠ g18) := ⟨h9_⟩
            have N9_g18 : Aside0 (g9 ≠ g18) := ⟨h10_⟩
            have Nl_g18 : Aside0 (gl ≠ g18) := ⟨h11_⟩
            have Nx_g18 : Aside0 (gx ≠ g18) := ⟨h12_⟩
            have Ny_g18 : Aside0 (gy ≠ g18) := ⟨h13_⟩
            have XB_bg : Aside0 (Below w.heap.size w w12_j) := ⟨h14_⟩
            clear h0_ h1_ h2_ h3_ h4_ h5_ h6_ h7_ h8_ h9_ h10_ h11_ h12_ h13_ h14_
            have hHeld : w12_j.cell? ⟨gl, 0, none⟩ = some (.slice (some ⟨gy, 0, none⟩) 256 256) ∧ w12_j.cell? ⟨gl, 1, none⟩ = some (.slice (some ⟨gx, 0, none⟩) 256 256) := hS_
            clear hS_
            refine norm_ (a' := ?_) ?_ ?_
            rotate_left
            · simp only [putAll, Act.put, List.setIfInBounds_toArray, List.set_cons_zero, List.set_cons_succ]
              rfl
            refine one_ (i := 13) (N := none) #[true, true, true, true, true, true, true, true, true, true, true, true, true, true, false, false] rfl rfl (one_of HT_.out (by kernel_rfl)) (by decide) (fun K hK => ?_)
            have c18_bg_0 := (blk_cell X18_bg.out 0).trans (show _ = some (Value.int .i64 0) from rfl)
            have f18_bg_0 := blk_frozen X18_bg.out 0
            have c18_bg_1 := (blk_cell X18_bg.out 1).trans (show _ = some (Value.int .i64 0) from rfl)
            have f18_bg_1 := blk_frozen X18_bg.out 1
            have c18_bg_2 := (blk_cell X18_bg.out 2).trans (show _ = some (Value.int .i64 0) from rfl)
            have f18_bg_2 := blk_frozen X18_bg.out 2
            have c18_bg_3 := (blk_cell X18_bg.out 3).trans (show _ = some (Value.int .i64 0) from rfl)
            have f18_bg_3 := blk_frozen X18_bg.out 3
            have u1 := Nl_g18.out
            have u2 := Ne.symm Nl_g18.out
            refine skip_ (w1 := ?_) (by rfl) rfl ?_ ?_
            rotate_left
            · go_simp
              rfl
            have xl_ := far4 (.int .i64 t0) (.int .i64 t1) (.int .i64 t2) (.int .i64 t3) Xl_bg.out Nl_g18.out
            refine hK.out _ _ ⟨(blk_cell xl_ 0).trans rfl, (blk_cell xl_ 1).trans rfl⟩ (fun hHeld => ?_)
            clear hK K xl_ u1 u2 c18_bg_0 f18_bg_0 c18_bg_1 f18_bg_1 c18_bg_2 f18_bg_2 c18_bg_3 f18_bg_3
            refine pure_ (i := 14) (N := some 19) (v := ?_) (a' := ?_) #[true, true, true, true, true, true, true, true, true, true, true, true, true, true, true, false] rfl rfl (any_of HT_.out (by kernel_rfl)) (fun _ _ _ h => h) (Or.inl ⟨by rfl, ?_⟩) ?_ ?_
            rotate_left
            · intro w'
              go_simp
              with_reducible rfl
            rotate_left
            · simp only [Act.put, List.setIfInBounds_toArray, List.set_cons_zero, List.set_cons_succ, i64_w, i32_w]
              rfl
            refine pure_ (i := 15) (N := some 20) (v := ?_) (a' := ?_) #[true, true, true, true, true, true, true, true, true, true, true, true, true, true, true, true] rfl rfl (any_of HT_.out (by kernel_rfl)) (fun _ _ _ h => h) (Or.inl ⟨by rfl, ?_⟩) ?_ ?_
            rotate_left
            · intro w'
              go_simp
              with_reducible rfl
            rotate_left
            · simp only [Act.put, List.setIfInBounds_toArray, List.set_cons_zero, List.set_cons_succ, i64_w, i32_w]
              rfl
            refine done_ (done_of HT_.out (by kernel_rfl)) ?_
            have X4_bz := Aside0.mk (far4 (.int .i64 t0) (.int .i64 t1) (.int .i64 t2) (.int .i64 t3) X4_bg.out N4_g18.out)
            have X5_bz := Aside0.mk (far4 (.int .i64 t0) (.int .i64 t1) (.int .i64 t2) (.int .i64 t3) X5_bg.out N5_g18.out)
            have X9_bz := Aside0.mk (far4 (.int .i64 t0) (.int .i64 t1) (.int .i64 t2) (.int .i64 t3) X9_bg.out N9_g18.out)
            have Xl_bz := Aside0.mk (far4 (.int .i64 t0) (.int .i64 t1) (.int .i64 t2) (.int .i64 t3) Xl_bg.out Nl_g18.out)
            have Xx_bz := Aside0.mk (far4 (.int .i64 t0) (.int .i64 t1) (.int .i64 t2) (.int .i64 t3) Xx_bg.out Nx_g18.out)
            have Xy_bz := Aside0.mk (far4 (.int .i64 t0) (.int .i64 t1) (.int .i64 t2) (.int .i64 t3) Xy_bg.out Ny_g18.out)
            have X18_bz := Aside0.mk (put4 (.int .i64 t0) (.int .i64 t1) (.int .i64 t2) (.int .i64 t3) X18_bg.out)
            have XB_bz := Aside0.mk (below4 (.int .i64 t0) (.int .i64 t1) (.int .i64 t2) (.int .i64 t3) XB_bg.out HG_g18.out)
            clear hHeld X4_bg X5_bg X9_bg Xl_bg Xx_bg Xy_bg X18_bg XB_bg
            obtain ⟨w12z, hwz⟩ : ∃ v, v = ((((w12_j.setCell ⟨g18, 0, none⟩ (.int .i64 t0)).setCell ⟨g18, 1, none⟩ (.int .i64 t1)).setCell ⟨g18, 2, none⟩ (.int .i64 t2)).setCell ⟨g18, 3, none⟩ (.int .i64 t3)) := ⟨_, rfl⟩
            rw [← hwz] at X4_bz X5_bz X9_bz Xl_bz Xx_bz Xy_bz X18_bz XB_bz ⊢
            clear hwz
            have c18_bz_0 := (blk_cell X18_bz.out 0).trans (show _ = some (Value.int .i64 t0) from rfl); have f18_bz_0 := blk_frozen X18_bz.out 0; have c18_bz_1 := (blk_cell X18_bz.out 1).trans (show _ = some (Value.int .i64 t1) from rfl); have f18_bz_1 := blk_frozen X18_bz.out 1; have c18_bz_2 := (blk_cell X18_bz.out 2).trans (show _ = some (Value.int .i64 t2) from rfl); have f18_bz_2 := blk_frozen X18_bz.out 2; have c18_bz_3 := (blk_cell X18_bz.out 3).trans (show _ = some (Value.int .i64 t3) from rfl); have f18_bz_3 := blk_frozen X18_bz.out 3
            have c9_bz_0 := (blk_cell X9_bz.out 0).trans (show _ = some (Value.int .i64 t0) from rfl); have f9_bz_0 := blk_frozen X9_bz.out 0; have c9_bz_1 := (blk_cell X9_bz.out 1).trans (show _ = some (Value.int .i64 t1) from rfl); have f9_bz_1 := blk_frozen X9_bz.out 1; have c9_bz_2 := (blk_cell X9_bz.out 2).trans (show _ = some (Value.int .i64 t2) from rfl); have f9_bz_2 := blk_frozen X9_bz.out 2; have c9_bz_3 := (blk_cell X9_bz.out 3).trans (show _ = some (Value.int .i64 t3) from rfl); have f9_bz_3 := blk_frozen X9_bz.out 3
            have H := HH.out
            clear HH
            by_cases hc : rd (superL t0 t1 t2 t3) q = a3
            · rw [if_pos hc] at H
              have HKn := Aside0.mk H
              clear H
              have e3 : (rd (superL t0 t1 t2 t3) q == a3) = true := beq_iff_eq.mpr hc
              go_wp2_with (first | (go_at_call 20; go_loud (with_reducible refine (count_below HQ2.out).mono ?_; rintro e w33 ⟨rfl, hb⟩; have X4_8 := Aside0.mk (blk_below X4_bz.out hb); have X5_8 := Aside0.mk (blk_below X5_bz.out hb); have X9_8 := Aside0.mk (blk_below X9_bz.out hb); have Xl_8 := Aside0.mk (blk_below Xl_bz.out hb); have Xx_8 := Aside0.mk (blk_below Xx_bz.out hb); have Xy_8 := Aside0.mk (blk_below Xy_bz.out hb); have X18_8 := Aside0.mk (blk_below X18_bz.out hb); have XB_8 := Aside0.mk (below_step XB_bz.out hb); clear hb X4_bz X5_bz X9_bz Xl_bz Xx_bz Xy_bz X18_bz XB_bz; clear c18_bz_0 f18_bz_0 c18_bz_1 f18_bz_1 c18_bz_2 f18_bz_2 c18_bz_3 f18_bz_3 c9_bz_0 f9_bz_0 c9_bz_1 f9_bz_1 c9_bz_2 f9_bz_2 c9_bz_3 f9_bz_3; have cy : w33.cell? ⟨gy, q.toNat, none⟩ = some (.int .u8 (rd (superL t0 t1 t2 t3) q)) := (blk_cell Xy_8.out q.toNat).trans (cell_rd _ q hq0 (by rw [superL_length]; omega)); have fy := blk_frozen Xy_8.out q.toNat; have cl_8_0 := (blk_cell Xl_8.out 0).trans (show _ = some (Value.slice (some ⟨gy, 0, none⟩) 256 256) from rfl); have fl_8_0 := blk_frozen Xl_8.out 0; have cl_8_1 := (blk_cell Xl_8.out 1).trans (show _ = some (Value.slice (some ⟨gx, 0, none⟩) 256 256) from rfl); have fl_8_1 := blk_frozen Xl_8.out 1)) | (go_at_call 15; with_reducible refine (leveelaw04_known.calls k r _ HKn.out).mono ?_; rintro e w34 ⟨rfl, hb⟩; have XB_9 := Aside0.mk (below_step XB_8.out hb); clear hb))
              go_ret
              exact ⟨rfl, XB_9.out⟩
            · rw [if_neg hc] at H
              by_cases hC2 : super_Choose.f k ((superL t0 t1 t2 t3).set q.toNat a3) (superL a0_0 a0_1 a0_2 a0_3) (wrap64 (z1 + z2)) = some (a0_0, a0_1, a0_2, a0_3, 1 - 0, 0)
              · rw [if_pos hC2] at H
                have HC2 : Aside0 (super_Choose.f k ((superL t0 t1 t2 t3).set q.toNat a3) (superL a0_0 a0_1 a0_2 a0_3) (wrap64 (z1 + z2)) = some (a0_0, a0_1, a0_2, a0_3, 1, 0)) := ⟨hC2⟩
                have HKn := Aside0.mk H
                clear H hC2
                have e3 : (rd (superL t0 t1 t2 t3) q == a3) = false := beq_eq_false_iff_ne.mpr hc
                go_wp2_with (go_at_call 20; go_loud (with_reducible refine (count_below HQ2.out).mono ?_; rintro e w33 ⟨rfl, hb⟩; have X4_8 := Aside0.mk (blk_below X4_bz.out hb); have X5_8 := Aside0.mk (blk_below X5_bz.out hb); have X9_8 := Aside0.mk (blk_below X9_bz.out hb); have Xl_8 := Aside0.mk (blk_below Xl_bz.out hb); have Xx_8 := Aside0.mk (blk_below Xx_bz.out hb); have Xy_8 := Aside0.mk (blk_below Xy_bz.out hb); have X18_8 := Aside0.mk (blk_below X18_bz.out hb); have XB_8 := Aside0.mk (below_step XB_bz.out hb); clear hb X4_bz X5_bz X9_bz Xl_bz Xx_bz Xy_bz X18_bz XB_bz; clear c18_bz_0 f18_bz_0 c18_bz_1 f18_bz_1 c18_bz_2 f18_bz_2 c18_bz_3 f18_bz_3 c9_bz_0 f9_bz_0 c9_bz_1 f9_bz_1 c9_bz_2 f9_bz_2 c9_bz_3 f9_bz_3; have cy : w33.cell? ⟨gy, q.toNat, none⟩ = some (.int .u8 (rd (superL t0 t1 t2 t3) q)) := (blk_cell Xy_8.out q.toNat).trans (cell_rd _ q hq0 (by rw [superL_length]; omega)); have fy := blk_frozen Xy_8.out q.toNat; have cl_8_0 := (blk_cell Xl_8.out 0).trans (show _ = some (Value.slice (some ⟨gy, 0, none⟩) 256 256) from rfl); have fl_8_0 := blk_frozen Xl_8.out 0; have cl_8_1 := (blk_cell Xl_8.out 1).trans (show _ = some (Value.slice (some ⟨gx, 0, none⟩) 256 256) from rfl); have fl_8_1 := blk_frozen Xl_8.out 1))
                have NYl := Aside0.mk nly
                have NYx := Aside0.mk (Nat.ne_of_lt HNy.out)
                have NY18 := Aside0.mk (Ne.symm Ny_g18.out)
                have NY4 := Aside0.mk (show g4 ≠ gy from N4y.out)
                have NY5 := Aside0.mk (show g5 ≠ gy from N5y.out)
                have NY9 := Aside0.mk (show g9 ≠ gy from N9y.out)
                have X4_9 := Aside0.mk (blk_far (p := ⟨gy, q.toNat, none⟩) X4_8.out NY4.out (.int .u8 a3))
                have X5_9 := Aside0.mk (blk_far (p := ⟨gy, q.toNat, none⟩) X5_8.out NY5.out (.int .u8 a3))
                have X9_9 := Aside0.mk (blk_far (p := ⟨gy, q.toNat, none⟩) X9_8.out NY9.out (.int .u8 a3))
                have Xl_9 := Aside0.mk (blk_far (p := ⟨gy, q.toNat, none⟩) Xl_8.out NYl.out (.int .u8 a3))
                have Xx_9 := Aside0.mk (blk_far (p := ⟨gy, q.toNat, none⟩) Xx_8.out NYx.out (.int .u8 a3))
                have Xy_9 := Aside0.mk (blk_put (cs' := (nums .u8 ((superL t0 t1 t2 t3).set q.toNat a3)).toArray) Xy_8.out q.toNat (.int .u8 a3) (nums_set8 _ _ _))
                have X18_9 := Aside0.mk (blk_far (p := ⟨gy, q.toNat, none⟩) X18_8.out NY18.out (.int .u8 a3))
                have XB_9 := Aside0.mk (below_set (j := q.toNat) (v := .int .u8 a3) XB_8.out HGy.out)
                clear cy fy X4_8 X5_8 X9_8 Xl_8 Xx_8 Xy_8 X18_8 XB_8
                obtain ⟨w34, hw34⟩ : ∃ v, v = w33.setCell ⟨gy, q.toNat, none⟩ (.int .u8 a3) := ⟨_, rfl⟩
                rw [← hw34] at X4_9 X5_9 X9_9 Xl_9 Xx_9 Xy_9 X18_9 XB_9 ⊢
                clear hw34
                have X4_9d := Aside0.mk (blk_drew X4_9.out)
                have X5_9d := Aside0.mk (blk_drew X5_9.out)
                have X9_9d := Aside0.mk (blk_drew X9_9.out)
                have Xl_9d := Aside0.mk (blk_drew Xl_9.out)
                have Xx_9d := Aside0.mk (blk_drew Xx_9.out)
                have Xy_9d := Aside0.mk (blk_drew Xy_9.out)
                have X18_9d := Aside0.mk (blk_drew X18_9.out)
                have XB_9d := Aside0.mk (below_drew XB_9.out)
                clear X4_9 X5_9 X9_9 Xl_9 Xx_9 Xy_9 X18_9 XB_9
                refine start_ (n := 16) (S := fun w' => w'.cell? ⟨gl, 0, none⟩ = some (.slice (some ⟨gy, 0, none⟩) 256 256) ∧ w'.cell? ⟨gl, 1, none⟩ = some (.slice (some ⟨gx, 0, none⟩) 256 256)) (ds := []) #[false, false, false, false, false, false, false, false, false, false, false, false, false, false, false, false] (by kernel_rfl) rfl rfl ⟨(blk_cell Xl_9d.out 0).trans rfl, (blk_cell Xl_9d.out 1).trans rfl⟩ (fun hHeld => ?_)
                refine with_tabW leveelaw04_SuperNext.tab19 leveelaw04_SuperNext.bits19 (fun HT_ HW_ => ?_)
                generalize w34.drew = w19_0 at X4_9d X5_9d X9_9d Xl_9d Xx_9d Xy_9d X18_9d XB_9d hHeld ⊢
                refine pure_ (i := 0) (N := some 120) (v := ?_) (a' := ?_) #[true, false, false, false, false, false, false, false, false, false, false, false, false, false, false, false] rfl rfl (any_of HT_.out (by kernel_rfl)) (fun _ _ _ h => h) (Or.inl ⟨by rfl, ?_⟩) ?_ ?_
                rotate_left
                · intro w'
                  go_simp
                  with_reducible rfl
                rotate_left
                · simp only [Act.put, List.setIfInBounds_toArray, List.set_cons_zero, List.set_cons_succ, i64_w, i32_w]
                  rfl
                refine pure_ (i := 1) (N := some 121) (v := ?_) (a' := ?_) #[true, true, false, false, false, false, false, false, false, false, false, false, false, false, false, false] rfl rfl (any_of HT_.out (by kernel_rfl)) (fun _ _ _ h => h) (Or.inl ⟨by rfl, ?_⟩) ?_ ?_
                rotate_left
                · intro w'
                  go_simp
                  with_reducible rfl
                rotate_left
                · simp only [Act.put, List.setIfInBounds_toArray, List.set_cons_zero, List.set_cons_succ, i64_w, i32_w]
                  rfl
                refine take_ (i := 2) (N := some 122) (v := ?_) (a' := ?_) #[true, true, true, false, false, false, false, false, false, false, false, false, false, false, false, false] rfl rfl (take_ofW HT_.out HW_.out (by kernel_rfl)) (fun _ _ _ h => h) (Or.inl ⟨by rfl, ?_⟩) hHeld ?_ ?_
                rotate_left
                · rintro w' ⟨s0, s1⟩
                  go_simp
                  with_reducible rfl
                rotate_left
                · simp only [Act.put, List.setIfInBounds_toArray, List.set_cons_zero, List.set_cons_succ, i64_w, i32_w]
                  rfl
                refine pure_ (i := 3) (N := some 123) (v := ?_) (a' := ?_) #[true, true, true, true, false, false, false, false, false, false, false, false, false, false, false, false] rfl rfl (any_of HT_.out (by kernel_rfl)) (fun _ _ _ h => h) (Or.inl ⟨by rfl, ?_⟩) ?_ ?_
                rotate_left
                · intro w'
                  go_simp
                  with_reducible rfl
                rotate_left
                · simp only [Act.put, List.setIfInBounds_toArray, List.set_cons_zero, List.set_cons_succ, i64_w, i32_w]
                  rfl
                refine pure_ (i := 4) (N := some 124) (v := ?_) (a' := ?_) #[true, true, true, true, true, false, false, false, false, false, false, false, false, false, false, false] rfl rfl (any_of HT_.out (by kernel_rfl)) (fun _ _ _ h => h) (Or.inl ⟨by rfl, ?_⟩) ?_ ?_
                rotate_left
                · intro w'
                  go_simp
                  with_reducible rfl
                rotate_left
                · simp only [Act.put, List.setIfInBounds_toArray, List.set_cons_zero, List.set_cons_succ, i64_w, i32_w]
                  rfl
                refine take_ (i := 5) (N := some 125) (v := ?_) (a' := ?_) #[true, true, true, true, true, true, false, false, false, false, false, false, false, false, false, false] rfl rfl (take_ofW HT_.out HW_.out (by kernel_rfl)) (fun _ _ _ h => h) (Or.inl ⟨by rfl, ?_⟩) hHeld ?_ ?_
                rotate_left
                · rintro w' ⟨s0, s1⟩
                  go_simp
                  with_reducible rfl
                rotate_left
                · simp only [Act.put, List.setIfInBounds_toArray, List.set_cons_zero, List.set_cons_succ, i64_w, i32_w]
                  rfl
                refine pure_ (i := 6) (N := some 126) (v := ?_) (a' := ?_) #[true, true, true, true, true, true, true, false, false, false, false, false, false, false, false, false] rfl rfl (any_of HT_.out (by kernel_rfl)) (fun _ _ _ h => h) (Or.inl ⟨by rfl, ?_⟩) ?_ ?_
                rotate_left
                · intro w'
                  go_simp
                  with_reducible rfl
                rotate_left
                · simp only [Act.put, List.setIfInBounds_toArray, List.set_cons_zero, List.set_cons_succ, i64_w, i32_w]
                  rfl
                refine join_ (σ := Nat) 3 #[true, true, true, true, true, true, true, true, true, true, true, true, true, false, false, false] (fun s_ => [(127, .tuple #[.agg #[.int .i64 a0_0, .int .i64 a0_1, .int .i64 a0_2, .int .i64 a0_3], .int .i64 1, .int .i64 0]), (22, .pointer (some ⟨s_, 0, none⟩)), (119, .tuple #[.agg #[.int .i64 a0_0, .int .i64 a0_1, .int .i64 a0_2, .int .i64 a0_3], .int .i64 1, .int .i64 0]), (128, .agg #[.int .i64 a0_0, .int .i64 a0_1, .int .i64 a0_2, .int .i64 a0_3]), (129, .int .i64 1), (130, .int .i64 0)]) (fun s_ w' => (w'.cell? ⟨gl, 0, none⟩ = some (.slice (some ⟨gy, 0, none⟩) 256 256) ∧ w'.cell? ⟨gl, 1, none⟩ = some (.slice (some ⟨gx, 0, none⟩) 256 256)) ∧ (w'.heap[g4]? = some (.cells #[.int .i64 a0_0, .int .i64 a0_1, .int .i64 a0_2, .int .i64 a0_3] 25 (0, 0))) ∧ (w'.heap[g5]? = some (.cells #[.int .i64 a1_0, .int .i64 a1_1, .int .i64 a1_2] 23 (0, 0))) ∧ (w'.heap[g9]? = some (.cells #[.int .i64 t0, .int .i64 t1, .int .i64 t2, .int .i64 t3] 30 (0, 0))) ∧ (w'.heap[gl]? = some (.cells #[.slice (some ⟨gy, 0, none⟩) 256 256, .slice (some ⟨gx, 0, none⟩) 256 256] 26 (0, 0))) ∧ (w'.heap[gx]? = some (.cells (nums .u8 (superL a0_0 a0_1 a0_2 a0_3)).toArray 54 (0, 0))) ∧ (w'.heap[gy]? = some (.cells (nums .u8 ((superL t0 t1 t2 t3).set q.toNat a3)).toArray 54 (0, 0))) ∧ (w'.heap[g18]? = some (.cells #[.int .i64 t0, .int .i64 t1, .int .i64 t2, .int .i64 t3] 30 (0, 0))) ∧ (w'.heap[s_]? = some (.cells #[.int .i64 0, .int .i64 0, .int .i64 0, .int .i64 0] 30 (0, 0))) ∧ (w.heap.size ≤ s_) ∧ (g4 ≠ s_) ∧ (g5 ≠ s_) ∧ (g9 ≠ s_) ∧ (gl ≠ s_) ∧ (gx ≠ s_) ∧ (gy ≠ s_) ∧ (g18 ≠ s_) ∧ (Below w.heap.size w w')) ?_ ?_
                rotate_left
                · intro hCont
                  refine two_ (i := 7) (j := 12) (Ni := some 127) (Nj := some 22) #[true, true, true, true, true, true, true, true, false, false, false, false, false, false, false, false] #[true, true, true, true, true, true, true, false, false, false, false, false, true, false, false, false] rfl rfl rfl rfl (two_of HT_.out (by kernel_rfl)) (by decide) (by decide) (fun K hK => ?_) (fun K hK => ?_)
                  · skip
                    refine goes_ Try.func16 (by kernel_rfl) rfl #[.slice (some ⟨gy, 0, none⟩) 256 256, .slice (some ⟨gx, 0, none⟩) 256 256, .int .i64 (wrap64 (z1 + z2))] (by rfl) rfl rfl (by (try simp only [List.map_toArray, List.map_cons, List.map_nil]); first | done | rfl) ?_
                    with_reducible refine (choose_at k gy gx ((superL t0 t1 t2 t3).set q.toNat a3) (superL a0_0 a0_1 a0_2 a0_3) (by rw [List.length_set]; exact superL_length _ _ _ _) (superL_length _ _ _ _) _ a0_0 a0_1 a0_2 a0_3 1 0 _ Xy_9d.out Xx_9d.out HC2.out).mono ?_
                    rintro e w19_1 ⟨rfl, hb⟩
                    refine ⟨_, rfl, ?_⟩
                    have X4_9e := Aside0.mk (blk_below X4_9d.out hb)
                    have X5_9e := Aside0.mk (blk_below X5_9d.out hb)
                    have X9_9e := Aside0.mk (blk_below X9_9d.out hb)
                    have Xl_9e := Aside0.mk (blk_below Xl_9d.out hb)
                    have Xx_9e := Aside0.mk (blk_below Xx_9d.out hb)
                    have Xy_9e := Aside0.mk (blk_below Xy_9d.out hb)
                    have X18_9e := Aside0.mk (blk_below X18_9d.out hb)
                    have XB_9e := Aside0.mk (below_step XB_9d.out hb)
                    clear hb X4_9d X5_9d X9_9d Xl_9d Xx_9d Xy_9d X18_9d XB_9d
                    refine hK.out _ _ ⟨(blk_cell Xl_9e.out 0).trans rfl, (blk_cell Xl_9e.out 1).trans rfl⟩ (fun hHeld => ?_)
                    clear hK K
                    refine norm_ (a' := ?_) ?_ ?_
                    rotate_left
                    · show Act.put _ (some 127) _ = _
                      simp only [Act.put, List.setIfInBounds_toArray, List.set_cons_zero, List.set_cons_succ, i64_w, i32_w]
                      rfl
                    refine pure_ (i := 8) (N := some 119) (v := ?_) (a' := ?_) #[true, true, true, true, true, true, true, true, true, false, false, false, false, false, false, false] rfl rfl (any_of HT_.out (by kernel_rfl)) (fun _ _ _ h => h) (Or.inl ⟨by rfl, ?_⟩) ?_ ?_
                    rotate_left
                    · intro w'
                      go_simp
                      with_reducible rfl
                    rotate_left
                    · simp only [Act.put, List.setIfInBounds_toArray, List.set_cons_zero, List.set_cons_succ, i64_w, i32_w]
                      rfl
                    refine pure_ (i := 9) (N := some 128) (v := ?_) (a' := ?_) #[true, true, true, true, true, true, true, true, true, true, false, false, false, false, false, false] rfl rfl (any_of HT_.out (by kernel_rfl)) (fun _ _ _ h => h) (Or.inl ⟨by rfl, ?_⟩) ?_ ?_
                    rotate_left
                    · intro w'
                      go_simp
                      with_reducible rfl
                    rotate_left
                    · simp only [Act.put, List.setIfInBounds_toArray, List.set_cons_zero, List.set_cons_succ, i64_w, i32_w]
                      rfl
                    refine pure_ (i := 10) (N := some 129) (v := ?_) (a' := ?_) #[true, true, true, true, true, true, true, true, true, true, true, false, false, false, false, false] rfl rfl (any_of HT_.out (by kernel_rfl)) (fun _ _ _ h => h) (Or.inl ⟨by rfl, ?_⟩) ?_ ?_
                    rotate_left
                    · intro w'
                      go_simp
                      with_reducible rfl
                    rotate_left
                    · simp only [Act.put, List.setIfInBounds_toArray, List.set_cons_zero, List.set_cons_succ, i64_w, i32_w]
                      rfl
                    refine pure_ (i := 11) (N := some 130) (v := ?_) (a' := ?_) #[true, true, true, true, true, true, true, true, true, true, true, true, false, false, false, false] rfl rfl (any_of HT_.out (by kernel_rfl)) (fun _ _ _ h => h) (Or.inl ⟨by rfl, ?_⟩) ?_ ?_
                    rotate_left
                    · intro w'
                      go_simp
                      with_reducible rfl
                    rotate_left
                    · simp only [Act.put, List.setIfInBounds_toArray, List.set_cons_zero, List.set_cons_succ, i64_w, i32_w]
                      rfl
                    refine one_ (i := 12) (N := some 22) #[true, true, true, true, true, true, true, true, true, true, true, true, true, false, false, false] rfl rfl (one_of HT_.out (by kernel_rfl)) (by decide) (fun K hK => ?_)
                    refine box_step ?hg (N := 22) ?hd (cs := #[.int .i64 0, .int .i64 0, .int .i64 0, .int .i64 0]) (t := 30) ?hr ?_; (case hd => rfl); (case hg => rfl); (case hr => first | (go_simp; done) | (go_simp; rfl))
                    intro g22 hg w19_2 hbox hb
                    have N4_g22 := Aside0.mk (show g4 ≠ g22 by have := blk_lt X4_9e.out; omega)
                    have N5_g22 := Aside0.mk (show g5 ≠ g22 by have := blk_lt X5_9e.out; omega)
                    have N9_g22 := Aside0.mk (show g9 ≠ g22 by have := blk_lt X9_9e.out; omega)
                    have Nl_g22 := Aside0.mk (show gl ≠ g22 by have := blk_lt Xl_9e.out; omega)
                    have Nx_g22 := Aside0.mk (show gx ≠ g22 by have := blk_lt Xx_9e.out; omega)
                    have Ny_g22 := Aside0.mk (show gy ≠ g22 by have := blk_lt Xy_9e.out; omega)
                    have N18_g22 := Aside0.mk (show g18 ≠ g22 by have := blk_lt X18_9e.out; omega)
                    have HG_g22 := Aside0.mk (show w.heap.size ≤ g22 by have := XB_9e.out.size; omega)
                    have X4_9ef := Aside0.mk (blk_below X4_9e.out hb)
                    have X5_9ef := Aside0.mk (blk_below X5_9e.out hb)
                    have X9_9ef := Aside0.mk (blk_below X9_9e.out hb)
                    have Xl_9ef := Aside0.mk (blk_below Xl_9e.out hb)
                    have Xx_9ef := Aside0.mk (blk_below Xx_9e.out hb)
                    have Xy_9ef := Aside0.mk (blk_below Xy_9e.out hb)
                    have X18_9ef := Aside0.mk (blk_below X18_9e.out hb)
                    have XB_9ef := Aside0.mk (below_step XB_9e.out hb)
                    clear hb X4_9e X5_9e X9_9e Xl_9e Xx_9e Xy_9e X18_9e XB_9e
                    have X22_9ef := Aside0.mk hbox
                    clear hbox hg
                    refine hK.out _ _ ⟨(blk_cell Xl_9ef.out 0).trans rfl, (blk_cell Xl_9ef.out 1).trans rfl⟩ (fun hHeld => ?_)
                    clear hK K
                    refine norm_ (a' := ?_) ?_ ?_
                    rotate_left
                    · show Act.put _ (some 22) _ = _
                      simp only [Act.put, List.setIfInBounds_toArray, List.set_cons_zero, List.set_cons_succ, i64_w, i32_w]
                      rfl
                    exact norm_ (by simp only [putAll, Act.put, List.setIfInBounds_toArray, List.set_cons_zero, List.set_cons_succ]) (hCont (g22) _ ⟨hHeld, X4_9ef.out, X5_9ef.out, X9_9ef.out, Xl_9ef.out, Xx_9ef.out, Xy_9ef.out, X18_9ef.out, X22_9ef.out, HG_g22.out, N4_g22.out, N5_g22.out, N9_g22.out, Nl_g22.out, Nx_g22.out, Ny_g22.out, N18_g22.out, XB_9ef.out⟩)
                  · skip
                    refine box_step ?hg (N := 22) ?hd (cs := #[.int .i64 0, .int .i64 0, .int .i64 0, .int .i64 0]) (t := 30) ?hr ?_; (case hd => rfl); (case hg => rfl); (case hr => first | (go_simp; done) | (go_simp; rfl))
                    intro g22 hg w19_1 hbox hb
                    have N4_g22 := Aside0.mk (show g4 ≠ g22 by have := blk_lt X4_9d.out; omega)
                    have N5_g22 := Aside0.mk (show g5 ≠ g22 by have := blk_lt X5_9d.out; omega)
                    have N9_g22 := Aside0.mk (show g9 ≠ g22 by have := blk_lt X9_9d.out; omega)
                    have Nl_g22 := Aside0.mk (show gl ≠ g22 by have := blk_lt Xl_9d.out; omega)
                    have Nx_g22 := Aside0.mk (show gx ≠ g22 by have := blk_lt Xx_9d.out; omega)
                    have Ny_g22 := Aside0.mk (show gy ≠ g22 by have := blk_lt Xy_9d.out; omega)
                    have N18_g22 := Aside0.mk (show g18 ≠ g22 by have := blk_lt X18_9d.out; omega)
                    have HG_g22 := Aside0.mk (show w.heap.size ≤ g22 by have := XB_9d.out.size; omega)
                    have X4_9e := Aside0.mk (blk_below X4_9d.out hb)
                    have X5_9e := Aside0.mk (blk_below X5_9d.out hb)
                    have X9_9e := Aside0.mk (blk_below X9_9d.out hb)
                    have Xl_9e := Aside0.mk (blk_below Xl_9d.out hb)
                    have Xx_9e := Aside0.mk (blk_below Xx_9d.out hb)
                    have Xy_9e := Aside0.mk (blk_below Xy_9d.out hb)
                    have X18_9e := Aside0.mk (blk_below X18_9d.out hb)
                    have XB_9e := Aside0.mk (below_step XB_9d.out hb)
                    clear hb X4_9d X5_9d X9_9d Xl_9d Xx_9d Xy_9d X18_9d XB_9d
                    have X22_9e := Aside0.mk hbox
                    clear hbox hg
                    refine hK.out _ _ ⟨(blk_cell Xl_9e.out 0).trans rfl, (blk_cell Xl_9e.out 1).trans rfl⟩ (fun hHeld => ?_)
                    clear hK K
                    refine norm_ (a' := ?_) ?_ ?_
                    rotate_left
                    · show Act.put _ (some 22) _ = _
                      simp only [Act.put, List.setIfInBounds_toArray, List.set_cons_zero, List.set_cons_succ, i64_w, i32_w]
                      rfl
                    refine one_ (i := 7) (N := some 127) #[true, true, true, true, true, true, true, true, false, false, false, false, true, false, false, false] rfl rfl (one_of HT_.out (by kernel_rfl)) (by decide) (fun K hK => ?_)
                    refine goes_ Try.func16 (by kernel_rfl) rfl #[.slice (some ⟨gy, 0, none⟩) 256 256, .slice (some ⟨gx, 0, none⟩) 256 256, .int .i64 (wrap64 (z1 + z2))] (by rfl) rfl rfl (by (try simp only [List.map_toArray, List.map_cons, List.map_nil]); first | done | rfl) ?_
                    with_reducible refine (choose_at k gy gx ((superL t0 t1 t2 t3).set q.toNat a3) (superL a0_0 a0_1 a0_2 a0_3) (by rw [List.length_set]; exact superL_length _ _ _ _) (superL_length _ _ _ _) _ a0_0 a0_1 a0_2 a0_3 1 0 _ Xy_9e.out Xx_9e.out HC2.out).mono ?_
                    rintro e w19_2 ⟨rfl, hb⟩
                    refine ⟨_, rfl, ?_⟩
                    have X4_9ef := Aside0.mk (blk_below X4_9e.out hb)
                    have X5_9ef := Aside0.mk (blk_below X5_9e.out hb)
                    have X9_9ef := Aside0.mk (blk_below X9_9e.out hb)
                    have Xl_9ef := Aside0.mk (blk_below Xl_9e.out hb)
                    have Xx_9ef := Aside0.mk (blk_below Xx_9e.out hb)
                    have Xy_9ef := Aside0.mk (blk_below Xy_9e.out hb)
                    have X18_9ef := Aside0.mk (blk_below X18_9e.out hb)
                    have X22_9ef := Aside0.mk (blk_below X22_9e.out hb)
                    have XB_9ef := Aside0.mk (below_step XB_9e.out hb)
                    clear hb X4_9e X5_9e X9_9e Xl_9e Xx_9e Xy_9e X18_9e X22_9e XB_9e
                    refine hK.out _ _ ⟨(blk_cell Xl_9ef.out 0).trans rfl, (blk_cell Xl_9ef.out 1).trans rfl⟩ (fun hHeld => ?_)
                    clear hK K
                    refine norm_ (a' := ?_) ?_ ?_
                    rotate_left
                    · show Act.put _ (some 127) _ = _
                      simp only [Act.put, List.setIfInBounds_toArray, List.set_cons_zero, List.set_cons_succ, i64_w, i32_w]
                      rfl
                    refine pure_ (i := 8) (N := some 119) (v := ?_) (a' := ?_) #[true, true, true, true, true, true, true, true, true, false, false, false, true, false, false, false] rfl rfl (any_of HT_.out (by kernel_rfl)) (fun _ _ _ h => h) (Or.inl ⟨by rfl, ?_⟩) ?_ ?_
                    rotate_left
                    · intro w'
                      go_simp
                      with_reducible rfl
                    rotate_left
                    · simp only [Act.put, List.setIfInBounds_toArray, List.set_cons_zero, List.set_cons_succ, i64_w, i32_w]
                      rfl
                    refine pure_ (i := 9) (N := some 128) (v := ?_) (a' := ?_) #[true, true, true, true, true, true, true, true, true, true, false, false, true, false, false, false] rfl rfl (any_of HT_.out (by kernel_rfl)) (fun _ _ _ h => h) (Or.inl ⟨by rfl, ?_⟩) ?_ ?_
                    rotate_left
                    · intro w'
                      go_simp
                      with_reducible rfl
                    rotate_left
                    · simp only [Act.put, List.setIfInBounds_toArray, List.set_cons_zero, List.set_cons_succ, i64_w, i32_w]
                      rfl
                    refine pure_ (i := 10) (N := some 129) (v := ?_) (a' := ?_) #[true, true, true, true, true, true, true, true, true, true, true, false, true, false, false, false] rfl rfl (any_of HT_.out (by kernel_rfl)) (fun _ _ _ h => h) (Or.inl ⟨by rfl, ?_⟩) ?_ ?_
                    rotate_left
                    · intro w'
                      go_simp
                      with_reducible rfl
                    rotate_left
                    · simp only [Act.put, List.setIfInBounds_toArray, List.set_cons_zero, List.set_cons_succ, i64_w, i32_w]
                      rfl
                    refine pure_ (i := 11) (N := some 130) (v := ?_) (a' := ?_) #[true, true, true, true, true, true, true, true, true, true, true, true, true, false, false, false] rfl rfl (any_of HT_.out (by kernel_rfl)) (fun _ _ _ h => h) (Or.inl ⟨by rfl, ?_⟩) ?_ ?_
                    rotate_left
                    · intro w'
                      go_simp
                      with_reducible rfl
                    rotate_left
                    · simp only [Act.put, List.setIfInBounds_toArray, List.set_cons_zero, List.set_cons_succ, i64_w, i32_w]
                      rfl
                    exact norm_ (by simp only [putAll, Act.put, List.setIfInBounds_toArray, List.set_cons_zero, List.set_cons_succ]) (hCont (g22) _ ⟨hHeld, X4_9ef.out, X5_9ef.out, X9_9ef.out, Xl_9ef.out, Xx_9ef.out, Xy_9ef.out, X18_9ef.out, X22_9ef.out, HG_g22.out, N4_g22.out, N5_g22.out, N9_g22.out, Nl_g22.out, Nx_g22.out, Ny_g22.out, N18_g22.out, XB_9ef.out⟩)
                clear X4_9d X5_9d X9_9d Xl_9d Xx_9d Xy_9d X18_9d XB_9d hHeld
                rintro g22 w19_j ⟨hS_, h0_, h1_, h2_, h3_, h4_, h5_, h6_, h7_, h8_, h9_, h10_, h11_, h12_, h13_, h14_, h15_, h16_⟩
                have X4_9g : Aside0 (w19_j.heap[g4]? = some (.cells #[.int .i64 a0_0, .int .i64 a0_1, .int .i64 a0_2, .int .i64 a0_3] 25 (0, 0))) := ⟨h0_⟩
                have X5_9g : Aside0 (w19_j.heap[g5]? = some (.cells #[.int .i64 a1_0, .int .i64 a1_1, .int .i64 a1_2] 23 (0, 0))) := ⟨h1_⟩
                have X9_9g : Aside0 (w19_j.heap[g9]? = some (.cells #[.int .i64 t0, .int .i64 t1, .int .i64 t2, .int .i64 t3] 30 (0, 0))) := ⟨h2_⟩
                have Xl_9g : Aside0 (w19_j.heap[gl]? = some (.cells #[.slice (some ⟨gy, 0, none⟩) 256 256, .slice (some ⟨gx, 0, none⟩) 256 256] 26 (0, 0))) := ⟨h3_⟩
                have Xx_9g : Aside0 (w19_j.heap[gx]? = some (.cells (nums .u8 (superL a0_0 a0_1 a0_2 a0_3)).toArray 54 (0, 0))) := ⟨h4_⟩
                have Xy_9g : Aside0 (w19_j.heap[gy]? = some (.cells (nums .u8 ((superL t0 t1 t2 t3).set q.toNat a3)).toArray 54 (0, 0))) := ⟨h5_⟩
                have X18_9g : Aside0 (w19_j.heap[g18]? = some (.cells #[.int .i64 t0, .int .i64 t1, .int .i64 t2, .int .i64 t3] 30 (0, 0))) := ⟨h6_⟩
                have X22_9g : Aside0 (w19_j.heap[g22]? = some (.cells #[.int .i64 0, .int .i64 0, .int .i64 0, .int .i64 0] 30 (0, 0))) := ⟨h7_⟩
                have HG_g22 : Aside0 (w.heap.size ≤ g22) := ⟨h8_⟩
                have N4_g22 : Aside0 (g4 ≠ g22) := ⟨h9_⟩
                have N5_g22 : Aside0 (g5 ≠ g22) := ⟨h10_⟩
                have N9_g22 : Aside0 (g9 ≠ g22) := ⟨h11_⟩
                have Nl_g22 : Aside0 (gl ≠ g22) := ⟨h12_⟩
                have Nx_g22 : Aside0 (gx ≠ g22) := ⟨h13_⟩
                have Ny_g22 : Aside0 (gy ≠ g22) := ⟨h14_⟩
                have N18_g22 : Aside0 (g18 ≠ g22) := ⟨h15_⟩
                have XB_9g : Aside0 (Below w.heap.size w w19_j) := ⟨h16_⟩
                clear h0_ h1_ h2_ h3_ h4_ h5_ h6_ h7_ h8_ h9_ h10_ h11_ h12_ h13_ h14_ h15_ h16_
                have hHeld : w19_j.cell? ⟨gl, 0, none⟩ = some (.slice (some ⟨gy, 0, none⟩) 256 256) ∧ w19_j.cell? ⟨gl, 1, none⟩ = some (.slice (some ⟨gx, 0, none⟩) 256 256) := hS_
                clear hS_
                refine norm_ (a' := ?_) ?_ ?_
                rotate_left
                · simp only [putAll, Act.put, List.setIfInBounds_toArray, List.set_cons_zero, List.set_cons_succ]
                  rfl
                refine one_ (i := 13) (N := none) #[true, true, true, true, true, true, true, true, true, true, true, true, true, true, false, false] rfl rfl (one_of HT_.out (by kernel_rfl)) (by decide) (fun K hK => ?_)
                have c22_9g_0 := (blk_cell X22_9g.out 0).trans (show _ = some (Value.int .i64 0) from rfl)
                have f22_9g_0 := blk_frozen X22_9g.out 0
                have c22_9g_1 := (blk_cell X22_9g.out 1).trans (show _ = some (Value.int .i64 0) from rfl)
                have f22_9g_1 := blk_frozen X22_9g.out 1
                have c22_9g_2 := (blk_cell X22_9g.out 2).trans (show _ = some (Value.int .i64 0) from rfl)
                have f22_9g_2 := blk_frozen X22_9g.out 2
                have c22_9g_3 := (blk_cell X22_9g.out 3).trans (show _ = some (Value.int .i64 0) from rfl)
                have f22_9g_3 := blk_frozen X22_9g.out 3
                have u1 := Nl_g22.out
                have u2 := Ne.symm Nl_g22.out
                refine skip_ (w1 := ?_) (by rfl) rfl ?_ ?_
                rotate_left
                · go_simp
                  rfl
                have xl_ := far4 (.int .i64 a0_0) (.int .i64 a0_1) (.int .i64 a0_2) (.int .i64 a0_3) Xl_9g.out Nl_g22.out
                refine hK.out _ _ ⟨(blk_cell xl_ 0).trans rfl, (blk_cell xl_ 1).trans rfl⟩ (fun hHeld => ?_)
                clear hK K xl_ u1 u2 c22_9g_0 f22_9g_0 c22_9g_1 f22_9g_1 c22_9g_2 f22_9g_2 c22_9g_3 f22_9g_3
                refine pure_ (i := 14) (N := some 23) (v := ?_) (a' := ?_) #[true, true, true, true, true, true, true, true, true, true, true, true, true, true, true, false] rfl rfl (any_of HT_.out (by kernel_rfl)) (fun _ _ _ h => h) (Or.inl ⟨by rfl, ?_⟩) ?_ ?_
                rotate_left
                · intro w'
                  go_simp
                  with_reducible rfl
                rotate_left
                · simp only [Act.put, List.setIfInBounds_toArray, List.set_cons_zero, List.set_cons_succ, i64_w, i32_w]
                  rfl
                refine pure_ (i := 15) (N := some 24) (v := ?_) (a' := ?_) #[true, true, true, true, true, true, true, true, true, true, true, true, true, true, true, true] rfl rfl (any_of HT_.out (by kernel_rfl)) (fun _ _ _ h => h) (Or.inl ⟨by rfl, ?_⟩) ?_ ?_
                rotate_left
                · intro w'
                  go_simp
                  with_reducible rfl
                rotate_left
                · simp only [Act.put, List.setIfInBounds_toArray, List.set_cons_zero, List.set_cons_succ, i64_w, i32_w]
                  rfl
                refine done_ (done_of HT_.out (by kernel_rfl)) ?_
                have X4_9z := Aside0.mk (far4 (.int .i64 a0_0) (.int .i64 a0_1) (.int .i64 a0_2) (.int .i64 a0_3) X4_9g.out N4_g22.out)
                have X5_9z := Aside0.mk (far4 (.int .i64 a0_0) (.int .i64 a0_1) (.int .i64 a0_2) (.int .i64 a0_3) X5_9g.out N5_g22.out)
                have X9_9z := Aside0.mk (far4 (.int .i64 a0_0) (.int .i64 a0_1) (.int .i64 a0_2) (.int .i64 a0_3) X9_9g.out N9_g22.out)
                have Xl_9z := Aside0.mk (far4 (.int .i64 a0_0) (.int .i64 a0_1) (.int .i64 a0_2) (.int .i64 a0_3) Xl_9g.out Nl_g22.out)
                have Xx_9z := Aside0.mk (far4 (.int .i64 a0_0) (.int .i64 a0_1) (.int .i64 a0_2) (.int .i64 a0_3) Xx_9g.out Nx_g22.out)
                have Xy_9z := Aside0.mk (far4 (.int .i64 a0_0) (.int .i64 a0_1) (.int .i64 a0_2) (.int .i64 a0_3) Xy_9g.out Ny_g22.out)
                have X18_9z := Aside0.mk (far4 (.int .i64 a0_0) (.int .i64 a0_1) (.int .i64 a0_2) (.int .i64 a0_3) X18_9g.out N18_g22.out)
                have X22_9z := Aside0.mk (put4 (.int .i64 a0_0) (.int .i64 a0_1) (.int .i64 a0_2) (.int .i64 a0_3) X22_9g.out)
                have XB_9z := Aside0.mk (below4 (.int .i64 a0_0) (.int .i64 a0_1) (.int .i64 a0_2) (.int .i64 a0_3) XB_9g.out HG_g22.out)
                clear hHeld X4_9g X5_9g X9_9g Xl_9g Xx_9g Xy_9g X18_9g X22_9g XB_9g
                obtain ⟨w19z, hwz⟩ : ∃ v, v = ((((w19_j.setCell ⟨g22, 0, none⟩ (.int .i64 a0_0)).setCell ⟨g22, 1, none⟩ (.int .i64 a0_1)).setCell ⟨g22, 2, none⟩ (.int .i64 a0_2)).setCell ⟨g22, 3, none⟩ (.int .i64 a0_3)) := ⟨_, rfl⟩
                rw [← hwz] at X4_9z X5_9z X9_9z Xl_9z Xx_9z Xy_9z X18_9z X22_9z XB_9z ⊢
                clear hwz
                have AT : Aside0 (leveelaw04_taken.f a0_0 a0_1 a0_2 a0_3 = some (a0_0, a0_1, a0_2, a0_3)) := ⟨rfl⟩
                go_wp2
                have X4_h := Aside0.mk (blk_drew X4_9z.out)
                have X22_h := Aside0.mk (blk_drew X22_9z.out)
                have XB_h := Aside0.mk (below_drew XB_9z.out)
                clear X4_9z X22_9z XB_9z
                have qa : (a0_0 == a0_0 && (a0_1 == a0_1 && (a0_2 == a0_2 && a0_3 == a0_3))) = true := by simp
                have qp1 : ((1 : Int) == wrap64 (1 - 0)) = true := by unfold wrap64; decide
                have qp2 : wrap64 (1 - 0) = 1 := by unfold wrap64; decide
                have qp3 : IntKind.i64.wrap (1 - 0) = 1 := by decide
                have qp4 : ((1 : Int) == 1) = true := by decide
                have qp5 : wrap64 1 = 1 := by unfold wrap64; decide
                have qp6 : wrap64 0 = 0 := by unfold wrap64; decide
                have qa0 : (a0_0 == a0_0) = true := beq_self_eq_true _
                have qa1 : (a0_1 == a0_1) = true := beq_self_eq_true _
                have qa2 : (a0_2 == a0_2) = true := beq_self_eq_true _
                have qa3 : (a0_3 == a0_3) = true := beq_self_eq_true _
                refine start_ (n := 18) (S := fun w' => w'.cell? ⟨g22, 0, none⟩ = some (.int .i64 a0_0) ∧ w'.cell? ⟨g22, 1, none⟩ = some (.int .i64 a0_1) ∧ w'.cell? ⟨g22, 2, none⟩ = some (.int .i64 a0_2) ∧ w'.cell? ⟨g22, 3, none⟩ = some (.int .i64 a0_3) ∧ w'.cell? ⟨g4, 0, none⟩ = some (.int .i64 a0_0) ∧ w'.cell? ⟨g4, 1, none⟩ = some (.int .i64 a0_1) ∧ w'.cell? ⟨g4, 2, none⟩ = some (.int .i64 a0_2) ∧ w'.cell? ⟨g4, 3, none⟩ = some (.int .i64 a0_3)) (ds := []) #[false, false, false, false, false, false, false, false, false, false, false, false, false, false, false, false, false, false] (by kernel_rfl) rfl rfl ⟨(blk_cell X22_h.out 0).trans rfl, (blk_cell X22_h.out 1).trans rfl, (blk_cell X22_h.out 2).trans rfl, (blk_cell X22_h.out 3).trans rfl, (blk_cell X4_h.out 0).trans rfl, (blk_cell X4_h.out 1).trans rfl, (blk_cell X4_h.out 2).trans rfl, (blk_cell X4_h.out 3).trans rfl⟩ (fun hHeld => ?_)
                refine with_tabW leveelaw04_SuperNext.tab20 leveelaw04_SuperNext.bits20 (fun HT_ HW_ => ?_)
                generalize w19z.drew = w20_0 at X4_h X22_h XB_h hHeld ⊢
                refine take_ (i := 0) (N := some 131) (v := ?_) (a' := ?_) #[true, false, false, false, false, false, false, false, false, false, false, false, false, false, false, false, false, false] rfl rfl (take_ofW HT_.out HW_.out (by kernel_rfl)) (fun _ _ _ h => h) (Or.inl ⟨by rfl, ?_⟩) hHeld ?_ ?_
                rotate_left
                · rintro w' ⟨s0, s1, s2, s3, s4, s5, s6, s7⟩
                  go_simp
                  with_reducible rfl
                rotate_left
                · simp only [Act.put, List.setIfInBounds_toArray, List.set_cons_zero, List.set_cons_succ, i64_w, i32_w]
                  rfl
                refine take_ (i := 2) (N := some 133) (v := ?_) (a' := ?_) #[true, false, true, false, false, false, false, false, false, false, false, false, false, false, false, false, false, false] rfl rfl (take_ofW HT_.out HW_.out (by kernel_rfl)) (fun _ _ _ h => h) (Or.inl ⟨by rfl, ?_⟩) hHeld ?_ ?_
                rotate_left
                · rintro w' ⟨s0, s1, s2, s3, s4, s5, s6, s7⟩
                  go_simp
                  with_reducible rfl
                rotate_left
                · simp only [Act.put, List.setIfInBounds_toArray, List.set_cons_zero, List.set_cons_succ, i64_w, i32_w]
                  rfl
                refine one_ (i := 1) (N := some 132) #[true, true, true, false, false, false, false, false, false, false, false, false, false, false, false, false, false, false] rfl rfl (one_of HT_.out (by kernel_rfl)) (by decide) (fun K hK => ?_)
                refine goes_ Try.func13 (by kernel_rfl) rfl #[.agg #[.int .i64 a0_0, .int .i64 a0_1, .int .i64 a0_2, .int .i64 a0_3]] (by rfl) rfl rfl (by (try simp only [List.map_toArray, List.map_cons, List.map_nil]); first | done | rfl) ?_
                with_reducible refine (leveelaw04_taken.calls a0_0 a0_1 a0_2 a0_3 a0_0 a0_1 a0_2 a0_3 _ AT.out).mono ?_
                rintro e w20_1 ⟨rfl, hb⟩
                refine ⟨_, rfl, ?_⟩
                have X4_i := Aside0.mk (blk_below X4_h.out hb)
                have X22_i := Aside0.mk (blk_below X22_h.out hb)
                have XB_i := Aside0.mk (below_step XB_h.out hb)
                clear hb X4_h X22_h XB_h
                refine hK.out _ _ ⟨(blk_cell X22_i.out 0).trans rfl, (blk_cell X22_i.out 1).trans rfl, (blk_cell X22_i.out 2).trans rfl, (blk_cell X22_i.out 3).trans rfl, (blk_cell X4_i.out 0).trans rfl, (blk_cell X4_i.out 1).trans rfl, (blk_cell X4_i.out 2).trans rfl, (blk_cell X4_i.out 3).trans rfl⟩ (fun hHeld => ?_)
                clear hK K
                refine norm_ (a' := ?_) ?_ ?_
                rotate_left
                · show Act.put _ (some 132) _ = _
                  simp only [Act.put, List.setIfInBounds_toArray, List.set_cons_zero, List.set_cons_succ, i64_w, i32_w]
                  rfl
                refine pure_ (i := 3) (N := some 134) (v := .bool true) (a' := ?_) #[true, true, true, true, false, false, false, false, false, false, false, false, false, false, false, false, false, false] rfl rfl (any_of HT_.out (by kernel_rfl)) (fun _ _ _ h => h) (Or.inl ⟨by rfl, ?_⟩) ?_ ?_
                · intro w'
                  go_simp
                  first | done | with_reducible rfl | rfl | (simp only [qp5, qp6]; rfl) | (simp [qp5, qp6]; done)
                rotate_left
                · simp only [Act.put, List.setIfInBounds_toArray, List.set_cons_zero, List.set_cons_succ, i64_w, i32_w]
                  rfl
                refine pure_ (i := 4) (N := some 135) (v := ?_) (a' := ?_) #[true, true, true, true, true, false, false, false, false, false, false, false, false, false, false, false, false, false] rfl rfl (any_of HT_.out (by kernel_rfl)) (fun _ _ _ h => h) (Or.inl ⟨by rfl, ?_⟩) ?_ ?_
                rotate_left
                · intro w'
                  go_simp
                  with_reducible rfl
                rotate_left
                · simp only [Act.put, List.setIfInBounds_toArray, List.set_cons_zero, List.set_cons_succ, i64_w, i32_w]
                  rfl
                refine pure_ (i := 5) (N := some 136) (v := ?_) (a' := ?_) #[true, true, true, true, true, true, false, false, false, false, false, false, false, false, false, false, false, false] rfl rfl (any_of HT_.out (by kernel_rfl)) (fun _ _ _ h => h) (Or.inl ⟨by rfl, ?_⟩) ?_ ?_
                rotate_left
                · intro w'
                  go_simp
                  with_reducible rfl
                rotate_left
                · simp only [Act.put, List.setIfInBounds_toArray, List.set_cons_zero, List.set_cons_succ, i64_w, i32_w]
                  rfl
                refine pure_ (i := 6) (N := some 137) (v := ?_) (a' := ?_) #[true, true, true, true, true, true, true, false, false, false, false, false, false, false, false, false, false, false] rfl rfl (any_of HT_.out (by kernel_rfl)) (fun _ _ _ h => h) (Or.inl ⟨by rfl, ?_⟩) ?_ ?_
                rotate_left
                · intro w'
                  go_simp
                  with_reducible rfl
                rotate_left
                · simp only [Act.put, List.setIfInBounds_toArray, List.set_cons_zero, List.set_cons_succ, i64_w, i32_w]
                  rfl
                refine pure_ (i := 7) (N := some 138) (v := ?_) (a' := ?_) #[true, true, true, true, true, true, true, true, false, false, false, false, false, false, false, false, false, false] rfl rfl (any_of HT_.out (by kernel_rfl)) (fun _ _ _ h => h) (Or.inl ⟨by rfl, ?_⟩) ?_ ?_
                rotate_left
                · intro w'
                  go_simp
                  with_reducible rfl
                rotate_left
                · simp only [Act.put, List.setIfInBounds_toArray, List.set_cons_zero, List.set_cons_succ, i64_w, i32_w]
                  rfl
                refine pure_ (i := 8) (N := some 139) (v := .bool true) (a' := ?_) #[true, true, true, true, true, true, true, true, true, false, false, false, false, false, false, false, false, false] rfl rfl (any_of HT_.out (by kernel_rfl)) (fun _ _ _ h => h) (Or.inl ⟨by rfl, ?_⟩) ?_ ?_
                · intro w'
                  go_simp
                  first | done | with_reducible rfl | rfl | (simp only [qp5, qp6]; rfl) | (simp [qp5, qp6]; done)
                rotate_left
                · simp only [Act.put, List.setIfInBounds_toArray, List.set_cons_zero, List.set_cons_succ, i64_w, i32_w]
                  rfl
                refine pure_ (i := 9) (N := some 140) (v := .bool true) (a' := ?_) #[true, true, true, true, true, true, true, true, true, true, false, false, false, false, false, false, false, false] rfl rfl (any_of HT_.out (by kernel_rfl)) (fun _ _ _ h => h) (Or.inl ⟨by rfl, ?_⟩) ?_ ?_
                · intro w'
                  go_simp
                  first | done | with_reducible rfl | rfl | (simp only [qp5, qp6]; rfl) | (simp [qp5, qp6]; done)
                rotate_left
                · simp only [Act.put, List.setIfInBounds_toArray, List.set_cons_zero, List.set_cons_succ, i64_w, i32_w]
                  rfl
                refine pure_ (i := 10) (N := some 141) (v := ?_) (a' := ?_) #[true, true, true, true, true, true, true, true, true, true, true, false, false, false, false, false, false, false] rfl rfl (any_of HT_.out (by kernel_rfl)) (fun _ _ _ h => h) (Or.inl ⟨by rfl, ?_⟩) ?_ ?_
                rotate_left
                · intro w'
                  go_simp
                  with_reducible rfl
                rotate_left
                · simp only [Act.put, List.setIfInBounds_toArray, List.set_cons_zero, List.set_cons_succ, i64_w, i32_w]
                  rfl
                refine pure_ (i := 11) (N := some 142) (v := ?_) (a' := ?_) #[true, true, true, true, true, true, true, true, true, true, true, true, false, false, false, false, false, false] rfl rfl (any_of HT_.out (by kernel_rfl)) (fun _ _ _ h => h) (Or.inl ⟨by rfl, ?_⟩) ?_ ?_
                rotate_left
                · intro w'
                  go_simp
                  with_reducible rfl
                rotate_left
                · simp only [Act.put, List.setIfInBounds_toArray, List.set_cons_zero, List.set_cons_succ, i64_w, i32_w]
                  rfl
                refine pure_ (i := 12) (N := some 143) (v := .bool true) (a' := ?_) #[true, true, true, true, true, true, true, true, true, true, true, true, true, false, false, false, false, false] rfl rfl (any_of HT_.out (by kernel_rfl)) (fun _ _ _ h => h) (Or.inl ⟨by rfl, ?_⟩) ?_ ?_
                · intro w'
                  go_simp
                  first | done | with_reducible rfl | rfl | (simp only [qp5, qp6]; rfl) | (simp [qp5, qp6]; done)
                rotate_left
                · simp only [Act.put, List.setIfInBounds_toArray, List.set_cons_zero, List.set_cons_succ, i64_w, i32_w]
                  rfl
                refine pure_ (i := 13) (N := some 144) (v := .bool true) (a' := ?_) #[true, true, true, true, true, true, true, true, true, true, true, true, true, true, false, false, false, false] rfl rfl (any_of HT_.out (by kernel_rfl)) (fun _ _ _ h => h) (Or.inl ⟨by rfl, ?_⟩) ?_ ?_
                · intro w'
                  go_simp
                  first | done | with_reducible rfl | rfl | (simp only [qp5, qp6]; rfl) | (simp [qp5, qp6]; done)
                rotate_left
                · simp only [Act.put, List.setIfInBounds_toArray, List.set_cons_zero, List.set_cons_succ, i64_w, i32_w]
                  rfl
                refine pure_ (i := 14) (N := some 145) (v := ?_) (a' := ?_) #[true, true, true, true, true, true, true, true, true, true, true, true, true, true, true, false, false, false] rfl rfl (any_of HT_.out (by kernel_rfl)) (fun _ _ _ h => h) (Or.inl ⟨by rfl, ?_⟩) ?_ ?_
                rotate_left
                · intro w'
                  go_simp
                  with_reducible rfl
                rotate_left
                · simp only [Act.put, List.setIfInBounds_toArray, List.set_cons_zero, List.set_cons_succ, i64_w, i32_w]
                  rfl
                refine one_ (i := 15) (N := some 146) #[true, true, true, true, true, true, true, true, true, true, true, true, true, true, true, true, false, false] rfl rfl (one_of HT_.out (by kernel_rfl)) (by decide) (fun K hK => ?_)
                refine goes_ Try.func15 (by kernel_rfl) rfl #[] (by rfl) rfl rfl (by (try simp only [List.map_toArray, List.map_cons, List.map_nil]); first | done | rfl) ?_
                with_reducible refine (leveelaw04_known.calls k r _ HKn.out).mono ?_
                rintro e w20_2 ⟨rfl, hb⟩
                refine ⟨_, rfl, ?_⟩
                have X4_j := Aside0.mk (blk_below X4_i.out hb)
                have X22_j := Aside0.mk (blk_below X22_i.out hb)
                have XB_j := Aside0.mk (below_step XB_i.out hb)
                clear hb X4_i X22_i XB_i
                refine hK.out _ _ ⟨(blk_cell X22_j.out 0).trans rfl, (blk_cell X22_j.out 1).trans rfl, (blk_cell X22_j.out 2).trans rfl, (blk_cell X22_j.out 3).trans rfl, (blk_cell X4_j.out 0).trans rfl, (blk_cell X4_j.out 1).trans rfl, (blk_cell X4_j.out 2).trans rfl, (blk_cell X4_j.out 3).trans rfl⟩ (fun hHeld => ?_)
                clear hK K
                refine norm_ (a' := ?_) ?_ ?_
                rotate_left
                · show Act.put _ (some 146) _ = _
                  simp only [Act.put, List.setIfInBounds_toArray, List.set_cons_zero, List.set_cons_succ, i64_w, i32_w]
                  rfl
                refine pure_ (i := 16) (N := some 147) (v := ?_) (a' := ?_) #[true, true, true, true, true, true, true, true, true, true, true, true, true, true, true, true, true, false] rfl rfl (any_of HT_.out (by kernel_rfl)) (fun _ _ _ h => h) (Or.inl ⟨by rfl, ?_⟩) ?_ ?_
                rotate_left
                · intro w'
                  go_simp
                  with_reducible rfl
                rotate_left
                · simp only [Act.put, List.setIfInBounds_toArray, List.set_cons_zero, List.set_cons_succ, i64_w, i32_w]
                  rfl
                refine pure_ (i := 17) (N := some 8) (v := ?_) (a' := ?_) #[true, true, true, true, true, true, true, true, true, true, true, true, true, true, true, true, true, true] rfl rfl (any_of HT_.out (by kernel_rfl)) (fun _ _ _ h => h) (Or.inl ⟨by rfl, ?_⟩) ?_ ?_
                rotate_left
                · intro w'
                  go_simp
                  with_reducible rfl
                rotate_left
                · simp only [Act.put, List.setIfInBounds_toArray, List.set_cons_zero, List.set_cons_succ, i64_w, i32_w]
                  rfl
                refine done_ (done_of HT_.out (by kernel_rfl)) ?_
                go_wp2
                go_ret
                exact ⟨rfl, XB_j.out⟩
              · rw [if_neg hC2] at H
                cases H
        · rw [if_neg hh] at H
          cases H
      · have HQ := Aside0.mk hQ
        clear hQ
        simp only [if_neg (show ¬ (1 : Int) = 0 by decide)] at H
        by_cases hh : super_Choose.f k (superL a0_0 a0_1 a0_2 a0_3) (superL t0 t1 t2 t3) (wrap64 (z1 + z2)) = some (t0, t1, t2, t3, 1, 0) ∧ 0 ≤ q ∧ q < 256
        · rw [if_pos hh] at H
          obtain ⟨hC1, hq0, hq1⟩ := hh
          have HC1 := Aside0.mk hC1
          clear hC1
          have hq0t : (0 ≤ q) = True := eq_true hq0
          have hq1t : (q < 256) = True := eq_true hq1
          have HH := Aside0.mk H
          clear H
          go_wp2_with (first
              | ((with_reducible refine gate_dst (N := 36) rfl ?_); refine make_event ?hg (cs := #[.slice none 0 0, .slice none 0 0]) (t := 26) (n := 2) (c := 2) ?hr ?_; (case hg => rfl); (case hr => first | kernel_rfl | (go_simp; kernel_rfl)); intro gl hgl w21 hx hb; have X4_1 := Aside0.mk (blk_below X4_0.out hb); have X5_1 := Aside0.mk (blk_below X5_0.out hb); have X9_1 := Aside0.mk (blk_below X9_0.out hb); have XB_1 := Aside0.mk (below_step XB_0.out hb); have Xl_1 := Aside0.mk hx; have HGl := Aside0.mk (show w.heap.size ≤ gl by have := XB_0.out.size; omega); have NE4 := Aside0.mk (show g4 ≠ gl by have := blk_lt X4_0.out; omega); have NE5 := Aside0.mk (show g5 ≠ gl by have := blk_lt X5_0.out; omega); have NE9 := Aside0.mk (show g9 ≠ gl by have := blk_lt X9_0.out; omega); clear hb X4_0 X5_0 X9_0 XB_0; clear hx hgl; have c4_1_0 := (blk_cell X4_1.out 0).trans (show _ = some (Value.int .i64 a0_0) from rfl); have f4_1_0 := blk_frozen X4_1.out 0; have c4_1_1 := (blk_cell X4_1.out 1).trans (show _ = some (Value.int .i64 a0_1) from rfl); have f4_1_1 := blk_frozen X4_1.out 1; have c4_1_2 := (blk_cell X4_1.out 2).trans (show _ = some (Value.int .i64 a0_2) from rfl); have f4_1_2 := blk_frozen X4_1.out 2; have c4_1_3 := (blk_cell X4_1.out 3).trans (show _ = some (Value.int .i64 a0_3) from rfl); have f4_1_3 := blk_frozen X4_1.out 3)
              | (go_at_call 8; with_reducible refine (leveelaw04_given.calls a0_0 a0_1 a0_2 a0_3 a0_0 a0_1 a0_2 a0_3 _ A5.out).mono ?_; rintro e w22 ⟨rfl, hb⟩; have X4_2 := Aside0.mk (blk_below X4_1.out hb); have X5_2 := Aside0.mk (blk_below X5_1.out hb); have X9_2 := Aside0.mk (blk_below X9_1.out hb); have Xl_2 := Aside0.mk (blk_below Xl_1.out hb); have XB_2 := Aside0.mk (below_step XB_1.out hb); clear hb X4_1 X5_1 X9_1 Xl_1 XB_1; clear c4_1_0 f4_1_0 c4_1_1 f4_1_1 c4_1_2 f4_1_2 c4_1_3 f4_1_3)
              | (go_at_call 7; with_reducible refine (sput_yes k a0_0 a0_1 a0_2 a0_3 _ HRs.out).mono ?_; rintro e w23 ⟨gx, rfl, hx, hgx, hb⟩; have X4_3 := Aside0.mk (blk_below X4_2.out hb); have X5_3 := Aside0.mk (blk_below X5_2.out hb); have X9_3 := Aside0.mk (blk_below X9_2.out hb); have Xl_3 := Aside0.mk (blk_below Xl_2.out hb); have XB_3 := Aside0.mk (below_step XB_2.out hb); have Xx_3 := Aside0.mk hx; have HNx := Aside0.mk (show gl < gx by have := blk_lt Xl_2.out; omega); clear hb X4_2 X5_2 X9_2 Xl_2 XB_2; clear hx hgx; have c9_3_0 := (blk_cell X9_3.out 0).trans (show _ = some (Value.int .i64 t0) from rfl); have f9_3_0 := blk_frozen X9_3.out 0; have c9_3_1 := (blk_cell X9_3.out 1).trans (show _ = some (Value.int .i64 t1) from rfl); have f9_3_1 := blk_frozen X9_3.out 1; have c9_3_2 := (blk_cell X9_3.out 2).trans (show _ = some (Value.int .i64 t2) from rfl); have f9_3_2 := blk_frozen X9_3.out 2; have c9_3_3 := (blk_cell X9_3.out 3).trans (show _ = some (Value.int .i64 t3) from rfl); have f9_3_3 := blk_frozen X9_3.out 3)
              | (go_at_call 7; with_reducible refine (sput_yes k t0 t1 t2 t3 _ HRt.out).mono ?_; rintro e w24 ⟨gy, rfl, hx, hgy, hb⟩; have X4_4 := Aside0.mk (blk_below X4_3.out hb); have X5_4 := Aside0.mk (blk_below X5_3.out hb); have X9_4 := Aside0.mk (blk_below X9_3.out hb); have Xl_4 := Aside0.mk (blk_below Xl_3.out hb); have Xx_4 := Aside0.mk (blk_below Xx_3.out hb); have XB_4 := Aside0.mk (below_step XB_3.out hb); have Xy_4 := Aside0.mk hx; have HNy := Aside0.mk (show gx < gy by have := blk_lt Xx_3.out; omega); have HGy := Aside0.mk (show w.heap.size ≤ gy by have := XB_3.out.size; omega); have N4y := Aside0.mk (show g4 ≠ gy by have := blk_lt X4_3.out; omega); have N5y := Aside0.mk (show g5 ≠ gy by have := blk_lt X5_3.out; omega); have N9y := Aside0.mk (show g9 ≠ gy by have := blk_lt X9_3.out; omega); clear hb X4_3 X5_3 X9_3 Xl_3 Xx_3 XB_3; clear hx hgy c9_3_0 f9_3_0 c9_3_1 f9_3_1 c9_3_2 f9_3_2 c9_3_3 f9_3_3; have c9_4_0 := (blk_cell X9_4.out 0).trans (show _ = some (Value.int .i64 t0) from rfl); have f9_4_0 := blk_frozen X9_4.out 0)
              | (go_at_call 20; with_reducible refine (count_below HQ.out).mono ?_; rintro e w25 ⟨rfl, hb⟩; have X4_5 := Aside0.mk (blk_below X4_4.out hb); have X5_5 := Aside0.mk (blk_below X5_4.out hb); have X9_5 := Aside0.mk (blk_below X9_4.out hb); have Xl_5 := Aside0.mk (blk_below Xl_4.out hb); have Xx_5 := Aside0.mk (blk_below Xx_4.out hb); have Xy_5 := Aside0.mk (blk_below Xy_4.out hb); have XB_5 := Aside0.mk (below_step XB_4.out hb); clear hb X4_4 X5_4 X9_4 Xl_4 Xx_4 Xy_4 XB_4; clear c9_4_0 f9_4_0; have cl_5_0 := (blk_cell Xl_5.out 0).trans (show _ = some (Value.slice none 0 0) from rfl); have fl_5_0 := blk_frozen Xl_5.out 0; have cl_5_1 := (blk_cell Xl_5.out 1).trans (show _ = some (Value.slice none 0 0) from rfl); have fl_5_1 := blk_frozen Xl_5.out 1))
          have nlx : gl ≠ gx := Nat.ne_of_lt HNx.out
          have nly : gl ≠ gy := Nat.ne_of_lt (Nat.lt_trans HNx.out HNy.out)
          have NEx := Aside0.mk (Ne.symm nlx)
          have NEy := Aside0.mk (Ne.symm nly)
          have x4 := blk_far (p := ⟨gl, 1, none⟩) (blk_far (p := ⟨gl, 0, none⟩) X4_5.out NE4.out (.slice (some ⟨gx, 0, none⟩) 256 256)) NE4.out (.slice (some ⟨gy, 0, none⟩) 256 256)
          have x5 := blk_far (p := ⟨gl, 1, none⟩) (blk_far (p := ⟨gl, 0, none⟩) X5_5.out NE5.out (.slice (some ⟨gx, 0, none⟩) 256 256)) NE5.out (.slice (some ⟨gy, 0, none⟩) 256 256)
          have x9 := blk_far (p := ⟨gl, 1, none⟩) (blk_far (p := ⟨gl, 0, none⟩) X9_5.out NE9.out (.slice (some ⟨gx, 0, none⟩) 256 256)) NE9.out (.slice (some ⟨gy, 0, none⟩) 256 256)
          have xl := blk_put (cs := #[.slice (some ⟨gx, 0, none⟩) 256 256, .slice none 0 0]) (blk_put (cs := #[.slice none 0 0, .slice none 0 0]) Xl_5.out 0 (.slice (some ⟨gx, 0, none⟩) 256 256) rfl) 1 (.slice (some ⟨gy, 0, none⟩) 256 256) rfl
          have xx := blk_far (p := ⟨gl, 1, none⟩) (blk_far (p := ⟨gl, 0, none⟩) Xx_5.out NEx.out (.slice (some ⟨gx, 0, none⟩) 256 256)) NEx.out (.slice (some ⟨gy, 0, none⟩) 256 256)
          have xy := blk_far (p := ⟨gl, 1, none⟩) (blk_far (p := ⟨gl, 0, none⟩) Xy_5.out NEy.out (.slice (some ⟨gx, 0, none⟩) 256 256)) NEy.out (.slice (some ⟨gy, 0, none⟩) 256 256)
          have xb := below_set (j := 1) (v := .slice (some ⟨gy, 0, none⟩) 256 256) (below_set (j := 0) (v := .slice (some ⟨gx, 0, none⟩) 256 256) XB_5.out HGl.out) HGl.out
          obtain ⟨w30, hw30⟩ : ∃ v, v = (w25.setCell ⟨gl, 0, none⟩ (.slice (some ⟨gx, 0, none⟩) 256 256)).setCell ⟨gl, 1, none⟩ (.slice (some ⟨gy, 0, none⟩) 256 256) := ⟨_, rfl⟩
          rw [← hw30] at x4 x5 x9 xl xx xy xb ⊢
          clear hw30 X4_5 X5_5 X9_5 Xl_5 Xx_5 Xy_5 XB_5 cl_5_0 fl_5_0 cl_5_1 fl_5_1
          have X4_d := Aside0.mk (blk_drew x4)
          have X5_d := Aside0.mk (blk_drew x5)
          have X9_d := Aside0.mk (blk_drew x9)
          have Xl_d := Aside0.mk (blk_drew xl)
          have Xx_d := Aside0.mk (blk_drew xx)
          have Xy_d := Aside0.mk (blk_drew xy)
          have XB_d := Aside0.mk (below_drew xb)
          clear x4 x5 x9 xl xx xy xb
          have c4_d_0 := (blk_cell X4_d.out 0).trans (show _ = some (Value.int .i64 a0_0) from rfl); have f4_d_0 := blk_frozen X4_d.out 0; have c4_d_1 := (blk_cell X4_d.out 1).trans (show _ = some (Value.int .i64 a0_1) from rfl); have f4_d_1 := blk_frozen X4_d.out 1; have c4_d_2 := (blk_cell X4_d.out 2).trans (show _ = some (Value.int .i64 a0_2) from rfl); have f4_d_2 := blk_frozen X4_d.out 2; have c4_d_3 := (blk_cell X4_d.out 3).trans (show _ = some (Value.int .i64 a0_3) from rfl); have f4_d_3 := blk_frozen X4_d.out 3
          have c5_d_0 := (blk_cell X5_d.out 0).trans (show _ = some (Value.int .i64 a1_0) from rfl); have f5_d_0 := blk_frozen X5_d.out 0; have c5_d_1 := (blk_cell X5_d.out 1).trans (show _ = some (Value.int .i64 a1_1) from rfl); have f5_d_1 := blk_frozen X5_d.out 1; have c5_d_2 := (blk_cell X5_d.out 2).trans (show _ = some (Value.int .i64 a1_2) from rfl); have f5_d_2 := blk_frozen X5_d.out 2
          go_region_with (first | (go_at_call 21; with_reducible refine (leveeref03_Size.calls a1_0 a1_1 a1_2 z1 _ HZ1.out).mono ?_; rintro e wa ⟨rfl, hb⟩; have X4_a := Aside0.mk (blk_below X4_d.out hb); have X5_a := Aside0.mk (blk_below X5_d.out hb); have X9_a := Aside0.mk (blk_below X9_d.out hb); have Xl_a := Aside0.mk (blk_below Xl_d.out hb); have Xx_a := Aside0.mk (blk_below Xx_d.out hb); have Xy_a := Aside0.mk (blk_below Xy_d.out hb); have XB_a := Aside0.mk (below_step XB_d.out hb); clear hb X4_d X5_d X9_d Xl_d Xx_d Xy_d XB_d; have c4_a_0 := (blk_cell X4_a.out 0).trans (show _ = some (Value.int .i64 a0_0) from rfl); have f4_a_0 := blk_frozen X4_a.out 0; have c4_a_1 := (blk_cell X4_a.out 1).trans (show _ = some (Value.int .i64 a0_1) from rfl); have f4_a_1 := blk_frozen X4_a.out 1; have c4_a_2 := (blk_cell X4_a.out 2).trans (show _ = some (Value.int .i64 a0_2) from rfl); have f4_a_2 := blk_frozen X4_a.out 2; have c4_a_3 := (blk_cell X4_a.out 3).trans (show _ = some (Value.int .i64 a0_3) from rfl); have f4_a_3 := blk_frozen X4_a.out 3; have c5_a_0 := (blk_cell X5_a.out 0).trans (show _ = some (Value.int .i64 a1_0) from rfl); have f5_a_0 := blk_frozen X5_a.out 0; have c5_a_1 := (blk_cell X5_a.out 1).trans (show _ = some (Value.int .i64 a1_1) from rfl); have f5_a_1 := blk_frozen X5_a.out 1; have c5_a_2 := (blk_cell X5_a.out 2).trans (show _ = some (Value.int .i64 a1_2) from rfl); have f5_a_2 := blk_frozen X5_a.out 2) | (go_at_call 21; with_reducible refine (leveeref03_Size.calls a0_1 a0_2 a0_3 z2 _ HZ2.out).mono ?_; rintro e wa ⟨rfl, hb⟩; have X4_a := Aside0.mk (blk_below X4_d.out hb); have X5_a := Aside0.mk (blk_below X5_d.out hb); have X9_a := Aside0.mk (blk_below X9_d.out hb); have Xl_a := Aside0.mk (blk_below Xl_d.out hb); have Xx_a := Aside0.mk (blk_below Xx_d.out hb); have Xy_a := Aside0.mk (blk_below Xy_d.out hb); have XB_a := Aside0.mk (below_step XB_d.out hb); clear hb X4_d X5_d X9_d Xl_d Xx_d Xy_d XB_d; have c4_a_0 := (blk_cell X4_a.out 0).trans (show _ = some (Value.int .i64 a0_0) from rfl); have f4_a_0 := blk_frozen X4_a.out 0; have c4_a_1 := (blk_cell X4_a.out 1).trans (show _ = some (Value.int .i64 a0_1) from rfl); have f4_a_1 := blk_frozen X4_a.out 1; have c4_a_2 := (blk_cell X4_a.out 2).trans (show _ = some (Value.int .i64 a0_2) from rfl); have f4_a_2 := blk_frozen X4_a.out 2; have c4_a_3 := (blk_cell X4_a.out 3).trans (show _ = some (Value.int .i64 a0_3) from rfl); have f4_a_3 := blk_frozen X4_a.out 3; have c5_a_0 := (blk_cell X5_a.out 0).trans (show _ = some (Value.int .i64 a1_0) from rfl); have f5_a_0 := blk_frozen X5_a.out 0; have c5_a_1 := (blk_cell X5_a.out 1).trans (show _ = some (Value.int .i64 a1_1) from rfl); have f5_a_1 := blk_frozen X5_a.out 1; have c5_a_2 := (blk_cell X5_a.out 2).trans (show _ = some (Value.int .i64 a1_2) from rfl); have f5_a_2 := blk_frozen X5_a.out 2) | (go_at_call 21; with_reducible refine (leveeref03_Size.calls a1_0 a1_1 a1_2 z1 _ HZ1.out).mono ?_; rintro e wb ⟨rfl, hb⟩; have X4_b := Aside0.mk (blk_below X4_a.out hb); have X5_b := Aside0.mk (blk_below X5_a.out hb); have X9_b := Aside0.mk (blk_below X9_a.out hb); have Xl_b := Aside0.mk (blk_below Xl_a.out hb); have Xx_b := Aside0.mk (blk_below Xx_a.out hb); have Xy_b := Aside0.mk (blk_below Xy_a.out hb); have XB_b := Aside0.mk (below_step XB_a.out hb); clear hb X4_a X5_a X9_a Xl_a Xx_a Xy_a XB_a; have c4_b_0 := (blk_cell X4_b.out 0).trans (show _ = some (Value.int .i64 a0_0) from rfl); have f4_b_0 := blk_frozen X4_b.out 0; have c4_b_1 := (blk_cell X4_b.out 1).trans (show _ = some (Value.int .i64 a0_1) from rfl); have f4_b_1 := blk_frozen X4_b.out 1; have c4_b_2 := (blk_cell X4_b.out 2).trans (show _ = some (Value.int .i64 a0_2) from rfl); have f4_b_2 := blk_frozen X4_b.out 2; have c4_b_3 := (blk_cell X4_b.out 3).trans (show _ = some (Value.int .i64 a0_3) from rfl); have f4_b_3 := blk_frozen X4_b.out 3; have c5_b_0 := (blk_cell X5_b.out 0).trans (show _ = some (Value.int .i64 a1_0) from rfl); have f5_b_0 := blk_frozen X5_b.out 0; have c5_b_1 := (blk_cell X5_b.out 1).trans (show _ = some (Value.int .i64 a1_1) from rfl); have f5_b_1 := blk_frozen X5_b.out 1; have c5_b_2 := (blk_cell X5_b.out 2).trans (show _ = some (Value.int .i64 a1_2) from rfl); have f5_b_2 := blk_frozen X5_b.out 2; have cl_b_0 := (blk_cell Xl_b.out 0).trans (show _ = some (Value.slice (some ⟨gx, 0, none⟩) 256 256) from rfl); have fl_b_0 := blk_frozen Xl_b.out 0; have cl_b_1 := (blk_cell Xl_b.out 1).trans (show _ = some (Value.slice (some ⟨gy, 0, none⟩) 256 256) from rfl); have fl_b_1 := blk_frozen Xl_b.out 1) | (go_at_call 21; with_reducible refine (leveeref03_Size.calls a0_1 a0_2 a0_3 z2 _ HZ2.out).mono ?_; rintro e wb ⟨rfl, hb⟩; have X4_b := Aside0.mk (blk_below X4_a.out hb); have X5_b := Aside0.mk (blk_below X5_a.out hb); have X9_b := Aside0.mk (blk_below X9_a.out hb); have Xl_b := Aside0.mk (blk_below Xl_a.out hb); have Xx_b := Aside0.mk (blk_below Xx_a.out hb); have Xy_b := Aside0.mk (blk_below Xy_a.out hb); have XB_b := Aside0.mk (below_step XB_a.out hb); clear hb X4_a X5_a X9_a Xl_a Xx_a Xy_a XB_a; have c4_b_0 := (blk_cell X4_b.out 0).trans (show _ = some (Value.int .i64 a0_0) from rfl); have f4_b_0 := blk_frozen X4_b.out 0; have c4_b_1 := (blk_cell X4_b.out 1).trans (show _ = some (Value.int .i64 a0_1) from rfl); have f4_b_1 := blk_frozen X4_b.out 1; have c4_b_2 := (blk_cell X4_b.out 2).trans (show _ = some (Value.int .i64 a0_2) from rfl); have f4_b_2 := blk_frozen X4_b.out 2; have c4_b_3 := (blk_cell X4_b.out 3).trans (show _ = some (Value.int .i64 a0_3) from rfl); have f4_b_3 := blk_frozen X4_b.out 3; have c5_b_0 := (blk_cell X5_b.out 0).trans (show _ = some (Value.int .i64 a1_0) from rfl); have f5_b_0 := blk_frozen X5_b.out 0; have c5_b_1 := (blk_cell X5_b.out 1).trans (show _ = some (Value.int .i64 a1_1) from rfl); have f5_b_1 := blk_frozen X5_b.out 1; have c5_b_2 := (blk_cell X5_b.out 2).trans (show _ = some (Value.int .i64 a1_2) from rfl); have f5_b_2 := blk_frozen X5_b.out 2; have cl_b_0 := (blk_cell Xl_b.out 0).trans (show _ = some (Value.slice (some ⟨gx, 0, none⟩) 256 256) from rfl); have fl_b_0 := blk_frozen Xl_b.out 0; have cl_b_1 := (blk_cell Xl_b.out 1).trans (show _ = some (Value.slice (some ⟨gy, 0, none⟩) 256 256) from rfl); have fl_b_1 := blk_frozen Xl_b.out 1))
          all_goals go_wp2
          all_goals
            clear c4_d_0 f4_d_0 c4_d_1 f4_d_1 c4_d_2 f4_d_2 c4_d_3 f4_d_3 c4_a_0 f4_a_0 c4_a_1 f4_a_1 c4_a_2 f4_a_2 c4_a_3 f4_a_3 c5_d_0 f5_d_0 c5_d_1 f5_d_1 c5_d_2 f5_d_2 c5_a_0 f5_a_0 c5_a_1 f5_a_1 c5_a_2 f5_a_2
            clear c4_b_0 f4_b_0 c4_b_1 f4_b_1 c4_b_2 f4_b_2 c4_b_3 f4_b_3 c5_b_0 f5_b_0 c5_b_1 f5_b_1 c5_b_2 f5_b_2 cl_b_0 fl_b_0 cl_b_1 fl_b_1
            have X4_bd := Aside0.mk (blk_drew X4_b.out)
            have X5_bd := Aside0.mk (blk_drew X5_b.out)
            have X9_bd := Aside0.mk (blk_drew X9_b.out)
            have Xl_bd := Aside0.mk (blk_drew Xl_b.out)
            have Xx_bd := Aside0.mk (blk_drew Xx_b.out)
            have Xy_bd := Aside0.mk (blk_drew Xy_b.out)
            have XB_bd := Aside0.mk (below_drew XB_b.out)
            clear X4_b X5_b X9_b Xl_b Xx_b Xy_b XB_b
            refine start_ (n := 16) (S := fun w' => w'.cell? ⟨gl, 0, none⟩ = some (.slice (some ⟨gx, 0, none⟩) 256 256) ∧ w'.cell? ⟨gl, 1, none⟩ = some (.slice (some ⟨gy, 0, none⟩) 256 256)) (ds := []) #[false, false, false, false, false, false, false, false, false, false, false, false, false, false, false, false] (by kernel_rfl) rfl rfl ⟨(blk_cell Xl_bd.out 0).trans rfl, (blk_cell Xl_bd.out 1).trans rfl⟩ (fun hHeld => ?_)
            refine with_tabW leveelaw04_SuperNext.tab12 leveelaw04_SuperNext.bits12 (fun HT_ HW_ => ?_)
            generalize wb.drew = w12_0 at X4_bd X5_bd X9_bd Xl_bd Xx_bd Xy_bd XB_bd hHeld ⊢
            refine norm_ (a' := ?_) ?_ ?_
            rotate_left
            · simp only [Act.put, List.getElem_toArray, List.getElem_cons_succ, List.getElem_cons_zero, List.setIfInBounds_toArray, List.set_cons_zero, List.set_cons_succ, i64_w]
              rfl
            refine pure_ (i := 0) (N := some 78) (v := ?_) (a' := ?_) #[true, false, false, false, false, false, false, false, false, false, false, false, false, false, false, false] rfl rfl (any_of HT_.out (by kernel_rfl)) (fun _ _ _ h => h) (Or.inl ⟨by rfl, ?_⟩) ?_ ?_
            rotate_left
            · intro w'
              go_simp
              with_reducible rfl
            rotate_left
            · simp only [Act.put, List.setIfInBounds_toArray, List.set_cons_zero, List.set_cons_succ, i64_w, i32_w]
              rfl
            refine pure_ (i := 1) (N := some 79) (v := ?_) (a' := ?_) #[true, true, false, false, false, false, false, false, false, false, false, false, false, false, false, false] rfl rfl (any_of HT_.out (by kernel_rfl)) (fun _ _ _ h => h) (Or.inl ⟨by rfl, ?_⟩) ?_ ?_
            rotate_left
            · intro w'
              go_simp
              with_reducible rfl
            rotate_left
            · simp only [Act.put, List.setIfInBounds_toArray, List.set_cons_zero, List.set_cons_succ, i64_w, i32_w]
              rfl
            refine take_ (i := 2) (N := some 80) (v := ?_) (a' := ?_) #[true, true, true, false, false, false, false, false, false, false, false, false, false, false, false, false] rfl rfl (take_ofW HT_.out HW_.out (by kernel_rfl)) (fun _ _ _ h => h) (Or.inl ⟨by rfl, ?_⟩) hHeld ?_ ?_
            rotate_left
            · rintro w' ⟨s0, s1⟩
              go_simp
              with_reducible rfl
            rotate_left
            · simp only [Act.put, List.setIfInBounds_toArray, List.set_cons_zero, List.set_cons_succ, i64_w, i32_w]
              rfl
            refine pure_ (i := 3) (N := some 81) (v := ?_) (a' := ?_) #[true, true, true, true, false, false, false, false, false, false, false, false, false, false, false, false] rfl rfl (any_of HT_.out (by kernel_rfl)) (fun _ _ _ h => h) (Or.inl ⟨by rfl, ?_⟩) ?_ ?_
            rotate_left
            · intro w'
              go_simp
              with_reducible rfl
            rotate_left
            · simp only [Act.put, List.setIfInBounds_toArray, List.set_cons_zero, List.set_cons_succ, i64_w, i32_w]
              rfl
            refine pure_ (i := 4) (N := some 82) (v := ?_) (a' := ?_) #[true, true, true, true, true, false, false, false, false, false, false, false, false, false, false, false] rfl rfl (any_of HT_.out (by kernel_rfl)) (fun _ _ _ h => h) (Or.inl ⟨by rfl, ?_⟩) ?_ ?_
            rotate_left
            · intro w'
              go_simp
              with_reducible rfl
            rotate_left
            · simp only [Act.put, List.setIfInBounds_toArray, List.set_cons_zero, List.set_cons_succ, i64_w, i32_w]
              rfl
            refine take_ (i := 5) (N := some 83) (v := ?_) (a' := ?_) #[true, true, true, true, true, true, false, false, false, false, false, false, false, false, false, false] rfl rfl (take_ofW HT_.out HW_.out (by kernel_rfl)) (fun _ _ _ h => h) (Or.inl ⟨by rfl, ?_⟩) hHeld ?_ ?_
            rotate_left
            · rintro w' ⟨s0, s1⟩
              go_simp
              with_reducible rfl
            rotate_left
            · simp only [Act.put, List.setIfInBounds_toArray, List.set_cons_zero, List.set_cons_succ, i64_w, i32_w]
              rfl
            refine pure_ (i := 6) (N := some 84) (v := ?_) (a' := ?_) #[true, true, true, true, true, true, true, false, false, false, false, false, false, false, false, false] rfl rfl (any_of HT_.out (by kernel_rfl)) (fun _ _ _ h => h) (Or.inl ⟨by rfl, ?_⟩) ?_ ?_
            rotate_left
            · intro w'
              go_simp
              with_reducible rfl
            rotate_left
            · simp only [Act.put, List.setIfInBounds_toArray, List.set_cons_zero, List.set_cons_succ, i64_w, i32_w]
              rfl
            refine join_ (σ := Nat) 3 #[true, true, true, true, true, true, true, true, true, true, true, true, true, false, false, false] (fun s_ => [(85, .tuple #[.agg #[.int .i64 t0, .int .i64 t1, .int .i64 t2, .int .i64 t3], .int .i64 1, .int .i64 0]), (18, .pointer (some ⟨s_, 0, none⟩)), (77, .tuple #[.agg #[.int .i64 t0, .int .i64 t1, .int .i64 t2, .int .i64 t3], .int .i64 1, .int .i64 0]), (86, .agg #[.int .i64 t0, .int .i64 t1, .int .i64 t2, .int .i64 t3]), (87, .int .i64 1), (88, .int .i64 0)]) (fun s_ w' => (w'.cell? ⟨gl, 0, none⟩ = some (.slice (some ⟨gx, 0, none⟩) 256 256) ∧ w'.cell? ⟨gl, 1, none⟩ = some (.slice (some ⟨gy, 0, none⟩) 256 256)) ∧ (w'.heap[g4]? = some (.cells #[.int .i64 a0_0, .int .i64 a0_1, .int .i64 a0_2, .int .i64 a0_3] 25 (0, 0))) ∧ (w'.heap[g5]? = some (.cells #[.int .i64 a1_0, .int .i64 a1_1, .int .i64 a1_2] 23 (0, 0))) ∧ (w'.heap[g9]? = some (.cells #[.int .i64 t0, .int .i64 t1, .int .i64 t2, .int .i64 t3] 30 (0, 0))) ∧ (w'.heap[gl]? = some (.cells #[.slice (some ⟨gx, 0, none⟩) 256 256, .slice (some ⟨gy, 0, none⟩) 256 256] 26 (0, 0))) ∧ (w'.heap[gx]? = some (.cells (nums .u8 (superL a0_0 a0_1 a0_2 a0_3)).toArray 54 (0, 0))) ∧ (w'.heap[gy]? = some (.cells (nums .u8 (superL t0 t1 t2 t3)).toArray 54 (0, 0))) ∧ (w'.heap[s_]? = some (.cells #[.int .i64 0, .int .i64 0, .int .i64 0, .int .i64 0] 30 (0, 0))) ∧ (w.heap.size ≤ s_) ∧ (g4 ≠ s_) ∧ (g5 ≠ s_) ∧ (g9 ≠ s_) ∧ (gl ≠ s_) ∧ (gx ≠ s_) ∧ (gy ≠ s_) ∧ (Below w.heap.size w w')) ?_ ?_
            rotate_left
            · intro hCont
              refine two_ (i := 7) (j := 12) (Ni := some 85) (Nj := some 18) #[true, true, true, true, true, true, true, true, false, false, false, false, false, false, false, false] #[true, true, true, true, true, true, true, false, false, false, false, false, true, false, false, false] rfl rfl rfl rfl (two_of HT_.out (by kernel_rfl)) (by decide) (by decide) (fun K hK => ?_) (fun K hK => ?_)
              · skip
                refine goes_ Try.func16 (by kernel_rfl) rfl #[.slice (some ⟨gx, 0, none⟩) 256 256, .slice (some ⟨gy, 0, none⟩) 256 256, .int .i64 (wrap64 (z1 + z2))] (by rfl) rfl rfl (by (try simp only [List.map_toArray, List.map_cons, List.map_nil]); first | done | rfl) ?_
                with_reducible refine (choose_at k gx gy (superL a0_0 a0_1 a0_2 a0_3) (superL t0 t1 t2 t3) (superL_length _ _ _ _) (superL_length _ _ _ _) _ t0 t1 t2 t3 1 0 _ Xx_bd.out Xy_bd.out HC1.out).mono ?_
                rintro e w12_1 ⟨rfl, hb⟩
                refine ⟨_, rfl, ?_⟩
                have X4_be := Aside0.mk (blk_below X4_bd.out hb)
                have X5_be := Aside0.mk (blk_below X5_bd.out hb)
                have X9_be := Aside0.mk (blk_below X9_bd.out hb)
                have Xl_be := Aside0.mk (blk_below Xl_bd.out hb)
                have Xx_be := Aside0.mk (blk_below Xx_bd.out hb)
                have Xy_be := Aside0.mk (blk_below Xy_bd.out hb)
                have XB_be := Aside0.mk (below_step XB_bd.out hb)
                clear hb X4_bd X5_bd X9_bd Xl_bd Xx_bd Xy_bd XB_bd
                refine hK.out _ _ ⟨(blk_cell Xl_be.out 0).trans rfl, (blk_cell Xl_be.out 1).trans rfl⟩ (fun hHeld => ?_)
                clear hK K
                refine norm_ (a' := ?_) ?_ ?_
                rotate_left
                · show Act.put _ (some 85) _ = _
                  simp only [Act.put, List.setIfInBounds_toArray, List.set_cons_zero, List.set_cons_succ, i64_w, i32_w]
                  rfl
                refine pure_ (i := 8) (N := some 77) (v := ?_) (a' := ?_) #[true, true, true, true, true, true, true, true, true, false, false, false, false, false, false, false] rfl rfl (any_of HT_.out (by kernel_rfl)) (fun _ _ _ h => h) (Or.inl ⟨by rfl, ?_⟩) ?_ ?_
                rotate_left
                · intro w'
                  go_simp
                  with_reducible rfl
                rotate_left
                · simp only [Act.put, List.setIfInBounds_toArray, List.set_cons_zero, List.set_cons_succ, i64_w, i32_w]
                  rfl
                refine pure_ (i := 9) (N := some 86) (v := ?_) (a' := ?_) #[true, true, true, true, true, true, true, true, true, true, false, false, false, false, false, false] rfl rfl (any_of HT_.out (by kernel_rfl)) (fun _ _ _ h => h) (Or.inl ⟨by rfl, ?_⟩) ?_ ?_
                rotate_left
                · intro w'
                  go_simp
                  with_reducible rfl
                rotate_left
                · simp only [Act.put, List.setIfInBounds_toArray, List.set_cons_zero, List.set_cons_succ, i64_w, i32_w]
                  rfl
                refine pure_ (i := 10) (N := some 87) (v := ?_) (a' := ?_) #[true, true, true, true, true, true, true, true, true, true, true, false, false, false, false, false] rfl rfl (any_of HT_.out (by kernel_rfl)) (fun _ _ _ h => h) (Or.inl ⟨by rfl, ?_⟩) ?_ ?_
                rotate_left
                · intro w'
                  go_simp
                  with_reducible rfl
                rotate_left
                · simp only [Act.put, List.setIfInBounds_toArray, List.set_cons_zero, List.set_cons_succ, i64_w, i32_w]
                  rfl
                refine pure_ (i := 11) (N := some 88) (v := ?_) (a' := ?_) #[true, true, true, true, true, true, true, true, true, true, true, true, false, false, false, false] rfl rfl (any_of HT_.out (by kernel_rfl)) (fun _ _ _ h => h) (Or.inl ⟨by rfl, ?_⟩) ?_ ?_
                rotate_left
                · intro w'
                  go_simp
                  with_reducible rfl
                rotate_left
                · simp only [Act.put, List.setIfInBounds_toArray, List.set_cons_zero, List.set_cons_succ, i64_w, i32_w]
                  rfl
                refine one_ (i := 12) (N := some 18) #[true, true, true, true, true, true, true, true, true, true, true, true, true, false, false, false] rfl rfl (one_of HT_.out (by kernel_rfl)) (by decide) (fun K hK => ?_)
                refine box_step ?hg (N := 18) ?hd (cs := #[.int .i64 0, .int .i64 0, .int .i64 0, .int .i64 0]) (t := 30) ?hr ?_; (case hd => rfl); (case hg => rfl); (case hr => first | (go_simp; done) | (go_simp; rfl))
                intro g18 hg w12_2 hbox hb
                have N4_g18 := Aside0.mk (show g4 ≠ g18 by have := blk_lt X4_be.out; omega)
                have N5_g18 := Aside0.mk (show g5 ≠ g18 by have := blk_lt X5_be.out; omega)
                have N9_g18 := Aside0.mk (show g9 ≠ g18 by have := blk_lt X9_be.out; omega)
                have Nl_g18 := Aside0.mk (show gl ≠ g18 by have := blk_lt Xl_be.out; omega)
                have Nx_g18 := Aside0.mk (show gx ≠ g18 by have := blk_lt Xx_be.out; omega)
                have Ny_g18 := Aside0.mk (show gy ≠ g18 by have := blk_lt Xy_be.out; omega)
                have HG_g18 := Aside0.mk (show w.heap.size ≤ g18 by have := XB_be.out.size; omega)
                have X4_bef := Aside0.mk (blk_below X4_be.out hb)
                have X5_bef := Aside0.mk (blk_below X5_be.out hb)
                have X9_bef := Aside0.mk (blk_below X9_be.out hb)
                have Xl_bef := Aside0.mk (blk_below Xl_be.out hb)
                have Xx_bef := Aside0.mk (blk_below Xx_be.out hb)
                have Xy_bef := Aside0.mk (blk_below Xy_be.out hb)
                have XB_bef := Aside0.mk (below_step XB_be.out hb)
                clear hb X4_be X5_be X9_be Xl_be Xx_be Xy_be XB_be
                have X18_bef := Aside0.mk hbox
                clear hbox hg
                refine hK.out _ _ ⟨(blk_cell Xl_bef.out 0).trans rfl, (blk_cell Xl_bef.out 1).trans rfl⟩ (fun hHeld => ?_)
                clear hK K
                refine norm_ (a' := ?_) ?_ ?_
                rotate_left
                · show Act.put _ (some 18) _ = _
                  simp only [Act.put, List.setIfInBounds_toArray, List.set_cons_zero, List.set_cons_succ, i64_w, i32_w]
                  rfl
                exact norm_ (by simp only [putAll, Act.put, List.setIfInBounds_toArray, List.set_cons_zero, List.set_cons_succ]) (hCont (g18) _ ⟨hHeld, X4_bef.out, X5_bef.out, X9_bef.out, Xl_bef.out, Xx_bef.out, Xy_bef.out, X18_bef.out, HG_g18.out, N4_g18.out, N5_g18.out, N9_g18.out, Nl_g18.out, Nx_g18.out, Ny_g18.out, XB_bef.out⟩)
              · skip
                refine box_step ?hg (N := 18) ?hd (cs := #[.int .i64 0, .int .i64 0, .int .i64 0, .int .i64 0]) (t := 30) ?hr ?_; (case hd => rfl); (case hg => rfl); (case hr => first | (go_simp; done) | (go_simp; rfl))
                intro g18 hg w12_1 hbox hb
                have N4_g18 := Aside0.mk (show g4 ≠ g18 by have := blk_lt X4_bd.out; omega)
                have N5_g18 := Aside0.mk (show g5 ≠ g18 by have := blk_lt X5_bd.out; omega)
                have N9_g18 := Aside0.mk (show g9 ≠ g18 by have := blk_lt X9_bd.out; omega)
                have Nl_g18 := Aside0.mk (show gl ≠ g18 by have := blk_lt Xl_bd.out; omega)
                have Nx_g18 := Aside0.mk (show gx ≠ g18 by have := blk_lt Xx_bd.out; omega)
                have Ny_g18 := Aside0.mk (show gy ≠ g18 by have := blk_lt Xy_bd.out; omega)
                have HG_g18 := Aside0.mk (show w.heap.size ≤ g18 by have := XB_bd.out.size; omega)
                have X4_be := Aside0.mk (blk_below X4_bd.out hb)
                have X5_be := Aside0.mk (blk_below X5_bd.out hb)
                have X9_be := Aside0.mk (blk_below X9_bd.out hb)
                have Xl_be := Aside0.mk (blk_below Xl_bd.out hb)
                have Xx_be := Aside0.mk (blk_below Xx_bd.out hb)
                have Xy_be := Aside0.mk (blk_below Xy_bd.out hb)
                have XB_be := Aside0.mk (below_step XB_bd.out hb)
                clear hb X4_bd X5_bd X9_bd Xl_bd Xx_bd Xy_bd XB_bd
                have X18_be := Aside0.mk hbox
                clear hbox hg
                refine hK.out _ _ ⟨(blk_cell Xl_be.out 0).trans rfl, (blk_cell Xl_be.out 1).trans rfl⟩ (fun hHeld => ?_)
                clear hK K
                refine norm_ (a' := ?_) ?_ ?_
                rotate_left
                · show Act.put _ (some 18) _ = _
                  simp only [Act.put, List.setIfInBounds_toArray, List.set_cons_zero, List.set_cons_succ, i64_w, i32_w]
                  rfl
                refine one_ (i := 7) (N := some 85) #[true, true, true, true, true, true, true, true, false, false, false, false, true, false, false, false] rfl rfl (one_of HT_.out (by kernel_rfl)) (by decide) (fun K hK => ?_)
                refine goes_ Try.func16 (by kernel_rfl) rfl #[.slice (some ⟨gx, 0, none⟩) 256 256, .slice (some ⟨gy, 0, none⟩) 256 256, .int .i64 (wrap64 (z1 + z2))] (by rfl) rfl rfl (by (try simp only [List.map_toArray, List.map_cons, List.map_nil]); first | done | rfl) ?_
                with_reducible refine (choose_at k gx gy (superL a0_0 a0_1 a0_2 a0_3) (superL t0 t1 t2 t3) (superL_length _ _ _ _) (superL_length _ _ _ _) _ t0 t1 t2 t3 1 0 _ Xx_be.out Xy_be.out HC1.out).mono ?_
                rintro e w12_2 ⟨rfl, hb⟩
                refine ⟨_, rfl, ?_⟩
                have X4_bef := Aside0.mk (blk_below X4_be.out hb)
                have X5_bef := Aside0.mk (blk_below X5_be.out hb)
                have X9_bef := Aside0.mk (blk_below X9_be.out hb)
                have Xl_bef := Aside0.mk (blk_below Xl_be.out hb)
                have Xx_bef := Aside0.mk (blk_below Xx_be.out hb)
                have Xy_bef := Aside0.mk (blk_below Xy_be.out hb)
                have X18_bef := Aside0.mk (blk_below X18_be.out hb)
                have XB_bef := Aside0.mk (below_step XB_be.out hb)
                clear hb X4_be X5_be X9_be Xl_be Xx_be Xy_be X18_be XB_be
                refine hK.out _ _ ⟨(blk_cell Xl_bef.out 0).trans rfl, (blk_cell Xl_bef.out 1).trans rfl⟩ (fun hHeld => ?_)
                clear hK K
                refine norm_ (a' := ?_) ?_ ?_
                rotate_left
                · show Act.put _ (some 85) _ = _
                  simp only [Act.put, List.setIfInBounds_toArray, List.set_cons_zero, List.set_cons_succ, i64_w, i32_w]
                  rfl
                refine pure_ (i := 8) (N := some 77) (v := ?_) (a' := ?_) #[true, true, true, true, true, true, true, true, true, false, false, false, true, false, false, false] rfl rfl (any_of HT_.out (by kernel_rfl)) (fun _ _ _ h => h) (Or.inl ⟨by rfl, ?_⟩) ?_ ?_
                rotate_left
                · intro w'
                  go_simp
                  with_reducible rfl
                rotate_left
                · simp only [Act.put, List.setIfInBounds_toArray, List.set_cons_zero, List.set_cons_succ, i64_w, i32_w]
                  rfl
                refine pure_ (i := 9) (N := some 86) (v := ?_) (a' := ?_) #[true, true, true, true, true, true, true, true, true, true, false, false, true, false, false, false] rfl rfl (any_of HT_.out (by kernel_rfl)) (fun _ _ _ h => h) (Or.inl ⟨by rfl, ?_⟩) ?_ ?_
                rotate_left
                · intro w'
                  go_simp
                  with_reducible rfl
                rotate_left
                · simp only [Act.put, List.setIfInBounds_toArray, List.set_cons_zero, List.set_cons_succ, i64_w, i32_w]
                  rfl
                refine pure_ (i := 10) (N := some 87) (v := ?_) (a' := ?_) #[true, true, true, true, true, true, true, true, true, true, true, false, true, false, false, false] rfl rfl (any_of HT_.out (by kernel_rfl)) (fun _ _ _ h => h) (Or.inl ⟨by rfl, ?_⟩) ?_ ?_
                rotate_left
                · intro w'
                  go_simp
                  with_reducible rfl
                rotate_left
                · simp only [Act.put, List.setIfInBounds_toArray, List.set_cons_zero, List.set_cons_succ, i64_w, i32_w]
                  rfl
                refine pure_ (i := 11) (N := some 88) (v := ?_) (a' := ?_) #[true, true, true, true, true, true, true, true, true, true, true, true, true, false, false, false] rfl rfl (any_of HT_.out (by kernel_rfl)) (fun _ _ _ h => h) (Or.inl ⟨by rfl, ?_⟩) ?_ ?_
                rotate_left
                · intro w'
                  go_simp
                  with_reducible rfl
                rotate_left
                · simp only [Act.put, List.setIfInBounds_toArray, List.set_cons_zero, List.set_cons_succ, i64_w, i32_w]
                  rfl
                exact norm_ (by simp only [putAll, Act.put, List.setIfInBounds_toArray, List.set_cons_zero, List.set_cons_succ]) (hCont (g18) _ ⟨hHeld, X4_bef.out, X5_bef.out, X9_bef.out, Xl_bef.out, Xx_bef.out, Xy_bef.out, X18_bef.out, HG_g18.out, N4_g18.out, N5_g18.out, N9_g18.out, Nl_g18.out, Nx_g18.out, Ny_g18.out, XB_bef.out⟩)
            clear X4_bd X5_bd X9_bd Xl_bd Xx_bd Xy_bd XB_bd hHeld
            rintro g18 w12_j ⟨hS_, h0_, h1_, h2_, h3_, h4_, h5_, h6_, h7_, h8_, h9_, h10_, h11_, h12_, h13_, h14_⟩
            have X4_bg : Aside0 (w12_j.heap[g4]? = some (.cells #[.int .i64 a0_0, .int .i64 a0_1, .int .i64 a0_2, .int .i64 a0_3] 25 (0, 0))) := ⟨h0_⟩
            have X5_bg : Aside0 (w12_j.heap[g5]? = some (.cells #[.int .i64 a1_0, .int .i64 a1_1, .int .i64 a1_2] 23 (0, 0))) := ⟨h1_⟩
            have X9_bg : Aside0 (w12_j.heap[g9]? = some (.cells #[.int .i64 t0, .int .i64 t1, .int .i64 t2, .int .i64 t3] 30 (0, 0))) := ⟨h2_⟩
            have Xl_bg : Aside0 (w12_j.heap[gl]? = some (.cells #[.slice (some ⟨gx, 0, none⟩) 256 256, .slice (some ⟨gy, 0, none⟩) 256 256] 26 (0, 0))) := ⟨h3_⟩
            have Xx_bg : Aside0 (w12_j.heap[gx]? = some (.cells (nums .u8 (superL a0_0 a0_1 a0_2 a0_3)).toArray 54 (0, 0))) := ⟨h4_⟩
            have Xy_bg : Aside0 (w12_j.heap[gy]? = some (.cells (nums .u8 (superL t0 t1 t2 t3)).toArray 54 (0, 0))) := ⟨h5_⟩
            have X18_bg : Aside0 (w12_j.heap[g18]? = some (.cells #[.int .i64 0, .int .i64 0, .int .i64 0, .int .i64 0] 30 (0, 0))) := ⟨h6_⟩
            have HG_g18 : Aside0 (w.heap.size ≤ g18) := ⟨h7_⟩
            have N4_g18 : Aside0 (g4 ≠ g18) := ⟨h8_⟩
            have N5_g18 : Aside0 (g5 ≠ g18) := ⟨h9_⟩
            have N9_g18 : Aside0 (g9 ≠ g18) := ⟨h10_⟩
            have Nl_g18 : Aside0 (gl ≠ g18) := ⟨h11_⟩
            have Nx_g18 : Aside0 (gx ≠ g18) := ⟨h12_⟩
            have Ny_g18 : Aside0 (gy ≠ g18) := ⟨h13_⟩
            have XB_bg : Aside0 (Below w.heap.size w w12_j) := ⟨h14_⟩
            clear h0_ h1_ h2_ h3_ h4_ h5_ h6_ h7_ h8_ h9_ h10_ h11_ h12_ h13_ h14_
            have hHeld : w12_j.cell? ⟨gl, 0, none⟩ = some (.slice (some ⟨gx, 0, none⟩) 256 256) ∧ w12_j.cell? ⟨gl, 1, none⟩ = some (.slice (some ⟨gy, 0, none⟩) 256 256) := hS_
            clear hS_
            refine norm_ (a' := ?_) ?_ ?_
            rotate_left
            · simp only [putAll, Act.put, List.setIfInBounds_toArray, List.set_cons_zero, List.set_cons_succ]
              rfl
            refine one_ (i := 13) (N := none) #[true, true, true, true, true, true, true, true, true, true, true, true, true, true, false, false] rfl rfl (one_of HT_.out (by kernel_rfl)) (by decide) (fun K hK => ?_)
            have c18_bg_0 := (blk_cell X18_bg.out 0).trans (show _ = some (Value.int .i64 0) from rfl)
            have f18_bg_0 := blk_frozen X18_bg.out 0
            have c18_bg_1 := (blk_cell X18_bg.out 1).trans (show _ = some (Value.int .i64 0) from rfl)
            have f18_bg_1 := blk_frozen X18_bg.out 1
            have c18_bg_2 := (blk_cell X18_bg.out 2).trans (show _ = some (Value.int .i64 0) from rfl)
            have f18_bg_2 := blk_frozen X18_bg.out 2
            have c18_bg_3 := (blk_cell X18_bg.out 3).trans (show _ = some (Value.int .i64 0) from rfl)
            have f18_bg_3 := blk_frozen X18_bg.out 3
            have u1 := Nl_g18.out
            have u2 := Ne.symm Nl_g18.out
            refine skip_ (w1 := ?_) (by rfl) rfl ?_ ?_
            rotate_left
            · go_simp
              rfl
            have xl_ := far4 (.int .i64 t0) (.int .i64 t1) (.int .i64 t2) (.int .i64 t3) Xl_bg.out Nl_g18.out
            refine hK.out _ _ ⟨(blk_cell xl_ 0).trans rfl, (blk_cell xl_ 1).trans rfl⟩ (fun hHeld => ?_)
            clear hK K xl_ u1 u2 c18_bg_0 f18_bg_0 c18_bg_1 f18_bg_1 c18_bg_2 f18_bg_2 c18_bg_3 f18_bg_3
            refine pure_ (i := 14) (N := some 19) (v := ?_) (a' := ?_) #[true, true, true, true, true, true, true, true, true, true, true, true, true, true, true, false] rfl rfl (any_of HT_.out (by kernel_rfl)) (fun _ _ _ h => h) (Or.inl ⟨by rfl, ?_⟩) ?_ ?_
            rotate_left
            · intro w'
              go_simp
              with_reducible rfl
            rotate_left
            · simp only [Act.put, List.setIfInBounds_toArray, List.set_cons_zero, List.set_cons_succ, i64_w, i32_w]
              rfl
            refine pure_ (i := 15) (N := some 20) (v := ?_) (a' := ?_) #[true, true, true, true, true, true, true, true, true, true, true, true, true, true, true, true] rfl rfl (any_of HT_.out (by kernel_rfl)) (fun _ _ _ h => h) (Or.inl ⟨by rfl, ?_⟩) ?_ ?_
            rotate_left
            · intro w'
              go_simp
              with_reducible rfl
            rotate_left
            · simp only [Act.put, List.setIfInBounds_toArray, List.set_cons_zero, List.set_cons_succ, i64_w, i32_w]
              rfl
            refine done_ (done_of HT_.out (by kernel_rfl)) ?_
            have X4_bz := Aside0.mk (far4 (.int .i64 t0) (.int .i64 t1) (.int .i64 t2) (.int .i64 t3) X4_bg.out N4_g18.out)
            have X5_bz := Aside0.mk (far4 (.int .i64 t0) (.int .i64 t1) (.int .i64 t2) (.int .i64 t3) X5_bg.out N5_g18.out)
            have X9_bz := Aside0.mk (far4 (.int .i64 t0) (.int .i64 t1) (.int .i64 t2) (.int .i64 t3) X9_bg.out N9_g18.out)
            have Xl_bz := Aside0.mk (far4 (.int .i64 t0) (.int .i64 t1) (.int .i64 t2) (.int .i64 t3) Xl_bg.out Nl_g18.out)
            have Xx_bz := Aside0.mk (far4 (.int .i64 t0) (.int .i64 t1) (.int .i64 t2) (.int .i64 t3) Xx_bg.out Nx_g18.out)
            have Xy_bz := Aside0.mk (far4 (.int .i64 t0) (.int .i64 t1) (.int .i64 t2) (.int .i64 t3) Xy_bg.out Ny_g18.out)
            have X18_bz := Aside0.mk (put4 (.int .i64 t0) (.int .i64 t1) (.int .i64 t2) (.int .i64 t3) X18_bg.out)
            have XB_bz := Aside0.mk (below4 (.int .i64 t0) (.int .i64 t1) (.int .i64 t2) (.int .i64 t3) XB_bg.out HG_g18.out)
            clear hHeld X4_bg X5_bg X9_bg Xl_bg Xx_bg Xy_bg X18_bg XB_bg
            obtain ⟨w12z, hwz⟩ : ∃ v, v = ((((w12_j.setCell ⟨g18, 0, none⟩ (.int .i64 t0)).setCell ⟨g18, 1, none⟩ (.int .i64 t1)).setCell ⟨g18, 2, none⟩ (.int .i64 t2)).setCell ⟨g18, 3, none⟩ (.int .i64 t3)) := ⟨_, rfl⟩
            rw [← hwz] at X4_bz X5_bz X9_bz Xl_bz Xx_bz Xy_bz X18_bz XB_bz ⊢
            clear hwz
            have c18_bz_0 := (blk_cell X18_bz.out 0).trans (show _ = some (Value.int .i64 t0) from rfl); have f18_bz_0 := blk_frozen X18_bz.out 0; have c18_bz_1 := (blk_cell X18_bz.out 1).trans (show _ = some (Value.int .i64 t1) from rfl); have f18_bz_1 := blk_frozen X18_bz.out 1; have c18_bz_2 := (blk_cell X18_bz.out 2).trans (show _ = some (Value.int .i64 t2) from rfl); have f18_bz_2 := blk_frozen X18_bz.out 2; have c18_bz_3 := (blk_cell X18_bz.out 3).trans (show _ = some (Value.int .i64 t3) from rfl); have f18_bz_3 := blk_frozen X18_bz.out 3
            have c9_bz_0 := (blk_cell X9_bz.out 0).trans (show _ = some (Value.int .i64 t0) from rfl); have f9_bz_0 := blk_frozen X9_bz.out 0; have c9_bz_1 := (blk_cell X9_bz.out 1).trans (show _ = some (Value.int .i64 t1) from rfl); have f9_bz_1 := blk_frozen X9_bz.out 1; have c9_bz_2 := (blk_cell X9_bz.out 2).trans (show _ = some (Value.int .i64 t2) from rfl); have f9_bz_2 := blk_frozen X9_bz.out 2; have c9_bz_3 := (blk_cell X9_bz.out 3).trans (show _ = some (Value.int .i64 t3) from rfl); have f9_bz_3 := blk_frozen X9_bz.out 3
            have H := HH.out
            clear HH
            by_cases hc : rd (superL t0 t1 t2 t3) q = a3
            · rw [if_pos hc] at H
              have HKn := Aside0.mk H
              clear H
              have e3 : (rd (superL t0 t1 t2 t3) q == a3) = true := beq_iff_eq.mpr hc
              go_wp2_with (first | (go_at_call 20; go_loud (with_reducible refine (count_below HQ2.out).mono ?_; rintro e w33 ⟨rfl, hb⟩; have X4_8 := Aside0.mk (blk_below X4_bz.out hb); have X5_8 := Aside0.mk (blk_below X5_bz.out hb); have X9_8 := Aside0.mk (blk_below X9_bz.out hb); have Xl_8 := Aside0.mk (blk_below Xl_bz.out hb); have Xx_8 := Aside0.mk (blk_below Xx_bz.out hb); have Xy_8 := Aside0.mk (blk_below Xy_bz.out hb); have X18_8 := Aside0.mk (blk_below X18_bz.out hb); have XB_8 := Aside0.mk (below_step XB_bz.out hb); clear hb X4_bz X5_bz X9_bz Xl_bz Xx_bz Xy_bz X18_bz XB_bz; clear c18_bz_0 f18_bz_0 c18_bz_1 f18_bz_1 c18_bz_2 f18_bz_2 c18_bz_3 f18_bz_3 c9_bz_0 f9_bz_0 c9_bz_1 f9_bz_1 c9_bz_2 f9_bz_2 c9_bz_3 f9_bz_3; have cy : w33.cell? ⟨gy, q.toNat, none⟩ = some (.int .u8 (rd (superL t0 t1 t2 t3) q)) := (blk_cell Xy_8.out q.toNat).trans (cell_rd _ q hq0 (by rw [superL_length]; omega)); have fy := blk_frozen Xy_8.out q.toNat; have cl_8_0 := (blk_cell Xl_8.out 0).trans (show _ = some (Value.slice (some ⟨gx, 0, none⟩) 256 256) from rfl); have fl_8_0 := blk_frozen Xl_8.out 0; have cl_8_1 := (blk_cell Xl_8.out 1).trans (show _ = some (Value.slice (some ⟨gy, 0, none⟩) 256 256) from rfl); have fl_8_1 := blk_frozen Xl_8.out 1)) | (go_at_call 15; with_reducible refine (leveelaw04_known.calls k r _ HKn.out).mono ?_; rintro e w34 ⟨rfl, hb⟩; have XB_9 := Aside0.mk (below_step XB_8.out hb); clear hb))
              go_ret
              exact ⟨rfl, XB_9.out⟩
            · rw [if_neg hc] at H
              by_cases hC2 : super_Choose.f k (superL a0_0 a0_1 a0_2 a0_3) ((superL t0 t1 t2 t3).set q.toNat a3) (wrap64 (z1 + z2)) = some (a0_0, a0_1, a0_2, a0_3, 1 - 1, 0)
              · rw [if_pos hC2] at H
                have HC2 : Aside0 (super_Choose.f k (superL a0_0 a0_1 a0_2 a0_3) ((superL t0 t1 t2 t3).set q.toNat a3) (wrap64 (z1 + z2)) = some (a0_0, a0_1, a0_2, a0_3, 0, 0)) := ⟨hC2⟩
                have HKn := Aside0.mk H
                clear H hC2
                have e3 : (rd (superL t0 t1 t2 t3) q == a3) = false := beq_eq_false_iff_ne.mpr hc
                go_wp2_with (go_at_call 20; go_loud (with_reducible refine (count_below HQ2.out).mono ?_; rintro e w33 ⟨rfl, hb⟩; have X4_8 := Aside0.mk (blk_below X4_bz.out hb); have X5_8 := Aside0.mk (blk_below X5_bz.out hb); have X9_8 := Aside0.mk (blk_below X9_bz.out hb); have Xl_8 := Aside0.mk (blk_below Xl_bz.out hb); have Xx_8 := Aside0.mk (blk_below Xx_bz.out hb); have Xy_8 := Aside0.mk (blk_below Xy_bz.out hb); have X18_8 := Aside0.mk (blk_below X18_bz.out hb); have XB_8 := Aside0.mk (below_step XB_bz.out hb); clear hb X4_bz X5_bz X9_bz Xl_bz Xx_bz Xy_bz X18_bz XB_bz; clear c18_bz_0 f18_bz_0 c18_bz_1 f18_bz_1 c18_bz_2 f18_bz_2 c18_bz_3 f18_bz_3 c9_bz_0 f9_bz_0 c9_bz_1 f9_bz_1 c9_bz_2 f9_bz_2 c9_bz_3 f9_bz_3; have cy : w33.cell? ⟨gy, q.toNat, none⟩ = some (.int .u8 (rd (superL t0 t1 t2 t3) q)) := (blk_cell Xy_8.out q.toNat).trans (cell_rd _ q hq0 (by rw [superL_length]; omega)); have fy := blk_frozen Xy_8.out q.toNat; have cl_8_0 := (blk_cell Xl_8.out 0).trans (show _ = some (Value.slice (some ⟨gx, 0, none⟩) 256 256) from rfl); have fl_8_0 := blk_frozen Xl_8.out 0; have cl_8_1 := (blk_cell Xl_8.out 1).trans (show _ = some (Value.slice (some ⟨gy, 0, none⟩) 256 256) from rfl); have fl_8_1 := blk_frozen Xl_8.out 1))
                have NYl := Aside0.mk nly
                have NYx := Aside0.mk (Nat.ne_of_lt HNy.out)
                have NY18 := Aside0.mk (Ne.symm Ny_g18.out)
                have NY4 := Aside0.mk (show g4 ≠ gy from N4y.out)
                have NY5 := Aside0.mk (show g5 ≠ gy from N5y.out)
                have NY9 := Aside0.mk (show g9 ≠ gy from N9y.out)
                have X4_9 := Aside0.mk (blk_far (p := ⟨gy, q.toNat, none⟩) X4_8.out NY4.out (.int .u8 a3))
                have X5_9 := Aside0.mk (blk_far (p := ⟨gy, q.toNat, none⟩) X5_8.out NY5.out (.int .u8 a3))
                have X9_9 := Aside0.mk (blk_far (p := ⟨gy, q.toNat, none⟩) X9_8.out NY9.out (.int .u8 a3))
                have Xl_9 := Aside0.mk (blk_far (p := ⟨gy, q.toNat, none⟩) Xl_8.out NYl.out (.int .u8 a3))
                have Xx_9 := Aside0.mk (blk_far (p := ⟨gy, q.toNat, none⟩) Xx_8.out NYx.out (.int .u8 a3))
                have Xy_9 := Aside0.mk (blk_put (cs' := (nums .u8 ((superL t0 t1 t2 t3).set q.toNat a3)).toArray) Xy_8.out q.toNat (.int .u8 a3) (nums_set8 _ _ _))
                have X18_9 := Aside0.mk (blk_far (p := ⟨gy, q.toNat, none⟩) X18_8.out NY18.out (.int .u8 a3))
                have XB_9 := Aside0.mk (below_set (j := q.toNat) (v := .int .u8 a3) XB_8.out HGy.out)
                clear cy fy X4_8 X5_8 X9_8 Xl_8 Xx_8 Xy_8 X18_8 XB_8
                obtain ⟨w34, hw34⟩ : ∃ v, v = w33.setCell ⟨gy, q.toNat, none⟩ (.int .u8 a3) := ⟨_, rfl⟩
                rw [← hw34] at X4_9 X5_9 X9_9 Xl_9 Xx_9 Xy_9 X18_9 XB_9 ⊢
                clear hw34
                have X4_9d := Aside0.mk (blk_drew X4_9.out)
                have X5_9d := Aside0.mk (blk_drew X5_9.out)
                have X9_9d := Aside0.mk (blk_drew X9_9.out)
                have Xl_9d := Aside0.mk (blk_drew Xl_9.out)
                have Xx_9d := Aside0.mk (blk_drew Xx_9.out)
                have Xy_9d := Aside0.mk (blk_drew Xy_9.out)
                have X18_9d := Aside0.mk (blk_drew X18_9.out)
                have XB_9d := Aside0.mk (below_drew XB_9.out)
                clear X4_9 X5_9 X9_9 Xl_9 Xx_9 Xy_9 X18_9 XB_9
                refine start_ (n := 16) (S := fun w' => w'.cell? ⟨gl, 0, none⟩ = some (.slice (some ⟨gx, 0, none⟩) 256 256) ∧ w'.cell? ⟨gl, 1, none⟩ = some (.slice (some ⟨gy, 0, none⟩) 256 256)) (ds := []) #[false, false, false, false, false, false, false, false, false, false, false, false, false, false, false, false] (by kernel_rfl) rfl rfl ⟨(blk_cell Xl_9d.out 0).trans rfl, (blk_cell Xl_9d.out 1).trans rfl⟩ (fun hHeld => ?_)
                refine with_tabW leveelaw04_SuperNext.tab19 leveelaw04_SuperNext.bits19 (fun HT_ HW_ => ?_)
                generalize w34.drew = w19_0 at X4_9d X5_9d X9_9d Xl_9d Xx_9d Xy_9d X18_9d XB_9d hHeld ⊢
                refine pure_ (i := 0) (N := some 120) (v := ?_) (a' := ?_) #[true, false, false, false, false, false, false, false, false, false, false, false, false, false, false, false] rfl rfl (any_of HT_.out (by kernel_rfl)) (fun _ _ _ h => h) (Or.inl ⟨by rfl, ?_⟩) ?_ ?_
                rotate_left
                · intro w'
                  go_simp
                  with_reducible rfl
                rotate_left
                · simp only [Act.put, List.setIfInBounds_toArray, List.set_cons_zero, List.set_cons_succ, i64_w, i32_w]
                  rfl
                refine pure_ (i := 1) (N := some 121) (v := ?_) (a' := ?_) #[true, true, false, false, false, false, false, false, false, false, false, false, false, false, false, false] rfl rfl (any_of HT_.out (by kernel_rfl)) (fun _ _ _ h => h) (Or.inl ⟨by rfl, ?_⟩) ?_ ?_
                rotate_left
                · intro w'
                  go_simp
                  with_reducible rfl
                rotate_left
                · simp only [Act.put, List.setIfInBounds_toArray, List.set_cons_zero, List.set_cons_succ, i64_w, i32_w]
                  rfl
                refine take_ (i := 2) (N := some 122) (v := ?_) (a' := ?_) #[true, true, true, false, false, false, false, false, false, false, false, false, false, false, false, false] rfl rfl (take_ofW HT_.out HW_.out (by kernel_rfl)) (fun _ _ _ h => h) (Or.inl ⟨by rfl, ?_⟩) hHeld ?_ ?_
                rotate_left
                · rintro w' ⟨s0, s1⟩
                  go_simp
                  with_reducible rfl
                rotate_left
                · simp only [Act.put, List.setIfInBounds_toArray, List.set_cons_zero, List.set_cons_succ, i64_w, i32_w]
                  rfl
                refine pure_ (i := 3) (N := some 123) (v := ?_) (a' := ?_) #[true, true, true, true, false, false, false, false, false, false, false, false, false, false, false, false] rfl rfl (any_of HT_.out (by kernel_rfl)) (fun _ _ _ h => h) (Or.inl ⟨by rfl, ?_⟩) ?_ ?_
                rotate_left
                · intro w'
                  go_simp
                  with_reducible rfl
                rotate_left
                · simp only [Act.put, List.setIfInBounds_toArray, List.set_cons_zero, List.set_cons_succ, i64_w, i32_w]
                  rfl
                refine pure_ (i := 4) (N := some 124) (v := ?_) (a' := ?_) #[true, true, true, true, true, false, false, false, false, false, false, false, false, false, false, false] rfl rfl (any_of HT_.out (by kernel_rfl)) (fun _ _ _ h => h) (Or.inl ⟨by rfl, ?_⟩) ?_ ?_
                rotate_left
                · intro w'
                  go_simp
                  with_reducible rfl
                rotate_left
                · simp only [Act.put, List.setIfInBounds_toArray, List.set_cons_zero, List.set_cons_succ, i64_w, i32_w]
                  rfl
                refine take_ (i := 5) (N := some 125) (v := ?_) (a' := ?_) #[true, true, true, true, true, true, false, false, false, false, false, false, false, false, false, false] rfl rfl (take_ofW HT_.out HW_.out (by kernel_rfl)) (fun _ _ _ h => h) (Or.inl ⟨by rfl, ?_⟩) hHeld ?_ ?_
                rotate_left
                · rintro w' ⟨s0, s1⟩
                  go_simp
                  with_reducible rfl
                rotate_left
                · simp only [Act.put, List.setIfInBounds_toArray, List.set_cons_zero, List.set_cons_succ, i64_w, i32_w]
                  rfl
                refine pure_ (i := 6) (N := some 126) (v := ?_) (a' := ?_) #[true, true, true, true, true, true, true, false, false, false, false, false, false, false, false, false] rfl rfl (any_of HT_.out (by kernel_rfl)) (fun _ _ _ h => h) (Or.inl ⟨by rfl, ?_⟩) ?_ ?_
                rotate_left
                · intro w'
                  go_simp
                  with_reducible rfl
                rotate_left
                · simp only [Act.put, List.setIfInBounds_toArray, List.set_cons_zero, List.set_cons_succ, i64_w, i32_w]
                  rfl
                refine join_ (σ := Nat) 3 #[true, true, true, true, true, true, true, true, true, true, true, true, true, false, false, false] (fun s_ => [(127, .tuple #[.agg #[.int .i64 a0_0, .int .i64 a0_1, .int .i64 a0_2, .int .i64 a0_3], .int .i64 0, .int .i64 0]), (22, .pointer (some ⟨s_, 0, none⟩)), (119, .tuple #[.agg #[.int .i64 a0_0, .int .i64 a0_1, .int .i64 a0_2, .int .i64 a0_3], .int .i64 0, .int .i64 0]), (128, .agg #[.int .i64 a0_0, .int .i64 a0_1, .int .i64 a0_2, .int .i64 a0_3]), (129, .int .i64 0), (130, .int .i64 0)]) (fun s_ w' => (w'.cell? ⟨gl, 0, none⟩ = some (.slice (some ⟨gx, 0, none⟩) 256 256) ∧ w'.cell? ⟨gl, 1, none⟩ = some (.slice (some ⟨gy, 0, none⟩) 256 256)) ∧ (w'.heap[g4]? = some (.cells #[.int .i64 a0_0, .int .i64 a0_1, .int .i64 a0_2, .int .i64 a0_3] 25 (0, 0))) ∧ (w'.heap[g5]? = some (.cells #[.int .i64 a1_0, .int .i64 a1_1, .int .i64 a1_2] 23 (0, 0))) ∧ (w'.heap[g9]? = some (.cells #[.int .i64 t0, .int .i64 t1, .int .i64 t2, .int .i64 t3] 30 (0, 0))) ∧ (w'.heap[gl]? = some (.cells #[.slice (some ⟨gx, 0, none⟩) 256 256, .slice (some ⟨gy, 0, none⟩) 256 256] 26 (0, 0))) ∧ (w'.heap[gx]? = some (.cells (nums .u8 (superL a0_0 a0_1 a0_2 a0_3)).toArray 54 (0, 0))) ∧ (w'.heap[gy]? = some (.cells (nums .u8 ((superL t0 t1 t2 t3).set q.toNat a3)).toArray 54 (0, 0))) ∧ (w'.heap[g18]? = some (.cells #[.int .i64 t0, .int .i64 t1, .int .i64 t2, .int .i64 t3] 30 (0, 0))) ∧ (w'.heap[s_]? = some (.cells #[.int .i64 0, .int .i64 0, .int .i64 0, .int .i64 0] 30 (0, 0))) ∧ (w.heap.size ≤ s_) ∧ (g4 ≠ s_) ∧ (g5 ≠ s_) ∧ (g9 ≠ s_) ∧ (gl ≠ s_) ∧ (gx ≠ s_) ∧ (gy ≠ s_) ∧ (g18 ≠ s_) ∧ (Below w.heap.size w w')) ?_ ?_
                rotate_left
                · intro hCont
                  refine two_ (i := 7) (j := 12) (Ni := some 127) (Nj := some 22) #[true, true, true, true, true, true, true, true, false, false, false, false, false, false, false, false] #[true, true, true, true, true, true, true, false, false, false, false, false, true, false, false, false] rfl rfl rfl rfl (two_of HT_.out (by kernel_rfl)) (by decide) (by decide) (fun K hK => ?_) (fun K hK => ?_)
                  · skip
                    refine goes_ Try.func16 (by kernel_rfl) rfl #[.slice (some ⟨gx, 0, none⟩) 256 256, .slice (some ⟨gy, 0, none⟩) 256 256, .int .i64 (wrap64 (z1 + z2))] (by rfl) rfl rfl (by (try simp only [List.map_toArray, List.map_cons, List.map_nil]); first | done | rfl) ?_
                    with_reducible refine (choose_at k gx gy (superL a0_0 a0_1 a0_2 a0_3) ((superL t0 t1 t2 t3).set q.toNat a3) (superL_length _ _ _ _) (by rw [List.length_set]; exact superL_length _ _ _ _) _ a0_0 a0_1 a0_2 a0_3 0 0 _ Xx_9d.out Xy_9d.out HC2.out).mono ?_
                    rintro e w19_1 ⟨rfl, hb⟩
                    refine ⟨_, rfl, ?_⟩
                    have X4_9e := Aside0.mk (blk_below X4_9d.out hb)
                    have X5_9e := Aside0.mk (blk_below X5_9d.out hb)
                    have X9_9e := Aside0.mk (blk_below X9_9d.out hb)
                    have Xl_9e := Aside0.mk (blk_below Xl_9d.out hb)
                    have Xx_9e := Aside0.mk (blk_below Xx_9d.out hb)
                    have Xy_9e := Aside0.mk (blk_below Xy_9d.out hb)
                    have X18_9e := Aside0.mk (blk_below X18_9d.out hb)
                    have XB_9e := Aside0.mk (below_step XB_9d.out hb)
                    clear hb X4_9d X5_9d X9_9d Xl_9d Xx_9d Xy_9d X18_9d XB_9d
                    refine hK.out _ _ ⟨(blk_cell Xl_9e.out 0).trans rfl, (blk_cell Xl_9e.out 1).trans rfl⟩ (fun hHeld => ?_)
                    clear hK K
                    refine norm_ (a' := ?_) ?_ ?_
                    rotate_left
                    · show Act.put _ (some 127) _ = _
                      simp only [Act.put, List.setIfInBounds_toArray, List.set_cons_zero, List.set_cons_succ, i64_w, i32_w]
                      rfl
                    refine pure_ (i := 8) (N := some 119) (v := ?_) (a' := ?_) #[true, true, true, true, true, true, true, true, true, false, false, false, false, false, false, false] rfl rfl (any_of HT_.out (by kernel_rfl)) (fun _ _ _ h => h) (Or.inl ⟨by rfl, ?_⟩) ?_ ?_
                    rotate_left
                    · intro w'
                      go_simp
                      with_reducible rfl
                    rotate_left
                    · simp only [Act.put, List.setIfInBounds_toArray, List.set_cons_zero, List.set_cons_succ, i64_w, i32_w]
                      rfl
                    refine pure_ (i := 9) (N := some 128) (v := ?_) (a' := ?_) #[true, true, true, true, true, true, true, true, true, true, false, false, false, false, false, false] rfl rfl (any_of HT_.out (by kernel_rfl)) (fun _ _ _ h => h) (Or.inl ⟨by rfl, ?_⟩) ?_ ?_
                    rotate_left
                    · intro w'
                      go_simp
                      with_reducible rfl
                    rotate_left
                    · simp only [Act.put, List.setIfInBounds_toArray, List.set_cons_zero, List.set_cons_succ, i64_w, i32_w]
                      rfl
                    refine pure_ (i := 10) (N := some 129) (v := ?_) (a' := ?_) #[true, true, true, true, true, true, true, true, true, true, true, false, false, false, false, false] rfl rfl (any_of HT_.out (by kernel_rfl)) (fun _ _ _ h => h) (Or.inl ⟨by rfl, ?_⟩) ?_ ?_
                    rotate_left
                    · intro w'
                      go_simp
                      with_reducible rfl
                    rotate_left
                    · simp only [Act.put, List.setIfInBounds_toArray, List.set_cons_zero, List.set_cons_succ, i64_w, i32_w]
                      rfl
                    refine pure_ (i := 11) (N := some 130) (v := ?_) (a' := ?_) #[true, true, true, true, true, true, true, true, true, true, true, true, false, false, false, false] rfl rfl (any_of HT_.out (by kernel_rfl)) (fun _ _ _ h => h) (Or.inl ⟨by rfl, ?_⟩) ?_ ?_
                    rotate_left
                    · intro w'
                      go_simp
                      with_reducible rfl
                    rotate_left
                    · simp only [Act.put, List.setIfInBounds_toArray, List.set_cons_zero, List.set_cons_succ, i64_w, i32_w]
                      rfl
                    refine one_ (i := 12) (N := some 22) #[true, true, true, true, true, true, true, true, true, true, true, true, true, false, false, false] rfl rfl (one_of HT_.out (by kernel_rfl)) (by decide) (fun K hK => ?_)
                    refine box_step ?hg (N := 22) ?hd (cs := #[.int .i64 0, .int .i64 0, .int .i64 0, .int .i64 0]) (t := 30) ?hr ?_; (case hd => rfl); (case hg => rfl); (case hr => first | (go_simp; done) | (go_simp; rfl))
                    intro g22 hg w19_2 hbox hb
                    have N4_g22 := Aside0.mk (show g4 ≠ g22 by have := blk_lt X4_9e.out; omega)
                    have N5_g22 := Aside0.mk (show g5 ≠ g22 by have := blk_lt X5_9e.out; omega)
                    have N9_g22 := Aside0.mk (show g9 ≠ g22 by have := blk_lt X9_9e.out; omega)
                    have Nl_g22 := Aside0.mk (show gl ≠ g22 by have := blk_lt Xl_9e.out; omega)
                    have Nx_g22 := Aside0.mk (show gx ≠ g22 by have := blk_lt Xx_9e.out; omega)
                    have Ny_g22 := Aside0.mk (show gy ≠ g22 by have := blk_lt Xy_9e.out; omega)
                    have N18_g22 := Aside0.mk (show g18 ≠ g22 by have := blk_lt X18_9e.out; omega)
                    have HG_g22 := Aside0.mk (show w.heap.size ≤ g22 by have := XB_9e.out.size; omega)
                    have X4_9ef := Aside0.mk (blk_below X4_9e.out hb)
                    have X5_9ef := Aside0.mk (blk_below X5_9e.out hb)
                    have X9_9ef := Aside0.mk (blk_below X9_9e.out hb)
                    have Xl_9ef := Aside0.mk (blk_below Xl_9e.out hb)
                    have Xx_9ef := Aside0.mk (blk_below Xx_9e.out hb)
                    have Xy_9ef := Aside0.mk (blk_below Xy_9e.out hb)
                    have X18_9ef := Aside0.mk (blk_below X18_9e.out hb)
                    have XB_9ef := Aside0.mk (below_step XB_9e.out hb)
                    clear hb X4_9e X5_9e X9_9e Xl_9e Xx_9e Xy_9e X18_9e XB_9e
                    have X22_9ef := Aside0.mk hbox
                    clear hbox hg
                    refine hK.out _ _ ⟨(blk_cell Xl_9ef.out 0).trans rfl, (blk_cell Xl_9ef.out 1).trans rfl⟩ (fun hHeld => ?_)
                    clear hK K
                    refine norm_ (a' := ?_) ?_ ?_
                    rotate_left
                    · show Act.put _ (some 22) _ = _
                      simp only [Act.put, List.setIfInBounds_toArray, List.set_cons_zero, List.set_cons_succ, i64_w, i32_w]
                      rfl
                    exact norm_ (by simp only [putAll, Act.put, List.setIfInBounds_toArray, List.set_cons_zero, List.set_cons_succ]) (hCont (g22) _ ⟨hHeld, X4_9ef.out, X5_9ef.out, X9_9ef.out, Xl_9ef.out, Xx_9ef.out, Xy_9ef.out, X18_9ef.out, X22_9ef.out, HG_g22.out, N4_g22.out, N5_g22.out, N9_g22.out, Nl_g22.out, Nx_g22.out, Ny_g22.out, N18_g22.out, XB_9ef.out⟩)
                  · skip
                    refine box_step ?hg (N := 22) ?hd (cs := #[.int .i64 0, .int .i64 0, .int .i64 0, .int .i64 0]) (t := 30) ?hr ?_; (case hd => rfl); (case hg => rfl); (case hr => first | (go_simp; done) | (go_simp; rfl))
                    intro g22 hg w19_1 hbox hb
                    have N4_g22 := Aside0.mk (show g4 ≠ g22 by have := blk_lt X4_9d.out; omega)
                    have N5_g22 := Aside0.mk (show g5 ≠ g22 by have := blk_lt X5_9d.out; omega)
                    have N9_g22 := Aside0.mk (show g9 ≠ g22 by have := blk_lt X9_9d.out; omega)
                    have Nl_g22 := Aside0.mk (show gl ≠ g22 by have := blk_lt Xl_9d.out; omega)
                    have Nx_g22 := Aside0.mk (show gx ≠ g22 by have := blk_lt Xx_9d.out; omega)
                    have Ny_g22 := Aside0.mk (show gy ≠ g22 by have := blk_lt Xy_9d.out; omega)
                    have N18_g22 := Aside0.mk (show g18 ≠ g22 by have := blk_lt X18_9d.out; omega)
                    have HG_g22 := Aside0.mk (show w.heap.size ≤ g22 by have := XB_9d.out.size; omega)
                    have X4_9e := Aside0.mk (blk_below X4_9d.out hb)
                    have X5_9e := Aside0.mk (blk_below X5_9d.out hb)
                    have X9_9e := Aside0.mk (blk_below X9_9d.out hb)
                    have Xl_9e := Aside0.mk (blk_below Xl_9d.out hb)
                    have Xx_9e := Aside0.mk (blk_below Xx_9d.out hb)
                    have Xy_9e := Aside0.mk (blk_below Xy_9d.out hb)
                    have X18_9e := Aside0.mk (blk_below X18_9d.out hb)
                    have XB_9e := Aside0.mk (below_step XB_9d.out hb)
                    clear hb X4_9d X5_9d X9_9d Xl_9d Xx_9d Xy_9d X18_9d XB_9d
                    have X22_9e := Aside0.mk hbox
                    clear hbox hg
                    refine hK.out _ _ ⟨(blk_cell Xl_9e.out 0).trans rfl, (blk_cell Xl_9e.out 1).trans rfl⟩ (fun hHeld => ?_)
                    clear hK K
                    refine norm_ (a' := ?_) ?_ ?_
                    rotate_left
                    · show Act.put _ (some 22) _ = _
                      simp only [Act.put, List.setIfInBounds_toArray, List.set_cons_zero, List.set_cons_succ, i64_w, i32_w]
                      rfl
                    refine one_ (i := 7) (N := some 127) #[true, true, true, true, true, true, true, true, false, false, false, false, true, false, false, false] rfl rfl (one_of HT_.out (by kernel_rfl)) (by decide) (fun K hK => ?_)
                    refine goes_ Try.func16 (by kernel_rfl) rfl #[.slice (some ⟨gx, 0, none⟩) 256 256, .slice (some ⟨gy, 0, none⟩) 256 256, .int .i64 (wrap64 (z1 + z2))] (by rfl) rfl rfl (by (try simp only [List.map_toArray, List.map_cons, List.map_nil]); first | done | rfl) ?_
                    with_reducible refine (choose_at k gx gy (superL a0_0 a0_1 a0_2 a0_3) ((superL t0 t1 t2 t3).set q.toNat a3) (superL_length _ _ _ _) (by rw [List.length_set]; exact superL_length _ _ _ _) _ a0_0 a0_1 a0_2 a0_3 0 0 _ Xx_9e.out Xy_9e.out HC2.out).mono ?_
                    rintro e w19_2 ⟨rfl, hb⟩
                    refine ⟨_, rfl, ?_⟩
                    have X4_9ef := Aside0.mk (blk_below X4_9e.out hb)
                    have X5_9ef := Aside0.mk (blk_below X5_9e.out hb)
                    have X9_9ef := Aside0.mk (blk_below X9_9e.out hb)
                    have Xl_9ef := Aside0.mk (blk_below Xl_9e.out hb)
                    have Xx_9ef := Aside0.mk (blk_below Xx_9e.out hb)
                    have Xy_9ef := Aside0.mk (blk_below Xy_9e.out hb)
                    have X18_9ef := Aside0.mk (blk_below X18_9e.out hb)
                    have X22_9ef := Aside0.mk (blk_below X22_9e.out hb)
                    have XB_9ef := Aside0.mk (below_step XB_9e.out hb)
                    clear hb X4_9e X5_9e X9_9e Xl_9e Xx_9e Xy_9e X18_9e X22_9e XB_9e
                    refine hK.out _ _ ⟨(blk_cell Xl_9ef.out 0).trans rfl, (blk_cell Xl_9ef.out 1).trans rfl⟩ (fun hHeld => ?_)
                    clear hK K
                    refine norm_ (a' := ?_) ?_ ?_
                    rotate_left
                    · show Act.put _ (some 127) _ = _
                      simp only [Act.put, List.setIfInBounds_toArray, List.set_cons_zero, List.set_cons_succ, i64_w, i32_w]
                      rfl
                    refine pure_ (i := 8) (N := some 119) (v := ?_) (a' := ?_) #[true, true, true, true, true, true, true, true, true, false, false, false, true, false, false, false] rfl rfl (any_of HT_.out (by kernel_rfl)) (fun _ _ _ h => h) (Or.inl ⟨by rfl, ?_⟩) ?_ ?_
                    rotate_left
                    · intro w'
                      go_simp
                      with_reducible rfl
                    rotate_left
                    · simp only [Act.put, List.setIfInBounds_toArray, List.set_cons_zero, List.set_cons_succ, i64_w, i32_w]
                      rfl
                    refine pure_ (i := 9) (N := some 128) (v := ?_) (a' := ?_) #[true, true, true, true, true, true, true, true, true, true, false, false, true, false, false, false] rfl rfl (any_of HT_.out (by kernel_rfl)) (fun _ _ _ h => h) (Or.inl ⟨by rfl, ?_⟩) ?_ ?_
                    rotate_left
                    · intro w'
                      go_simp
                      with_reducible rfl
                    rotate_left
                    · simp only [Act.put, List.setIfInBounds_toArray, List.set_cons_zero, List.set_cons_succ, i64_w, i32_w]
                      rfl
                    refine pure_ (i := 10) (N := some 129) (v := ?_) (a' := ?_) #[true, true, true, true, true, true, true, true, true, true, true, false, true, false, false, false] rfl rfl (any_of HT_.out (by kernel_rfl)) (fun _ _ _ h => h) (Or.inl ⟨by rfl, ?_⟩) ?_ ?_
                    rotate_left
                    · intro w'
                      go_simp
                      with_reducible rfl
                    rotate_left
                    · simp only [Act.put, List.setIfInBounds_toArray, List.set_cons_zero, List.set_cons_succ, i64_w, i32_w]
                      rfl
                    refine pure_ (i := 11) (N := some 130) (v := ?_) (a' := ?_) #[true, true, true, true, true, true, true, true, true, true, true, true, true, false, false, false] rfl rfl (any_of HT_.out (by kernel_rfl)) (fun _ _ _ h => h) (Or.inl ⟨by rfl, ?_⟩) ?_ ?_
                    rotate_left
                    · intro w'
                      go_simp
                      with_reducible rfl
                    rotate_left
                    · simp only [Act.put, List.setIfInBounds_toArray, List.set_cons_zero, List.set_cons_succ, i64_w, i32_w]
                      rfl
                    exact norm_ (by simp only [putAll, Act.put, List.setIfInBounds_toArray, List.set_cons_zero, List.set_cons_succ]) (hCont (g22) _ ⟨hHeld, X4_9ef.out, X5_9ef.out, X9_9ef.out, Xl_9ef.out, Xx_9ef.out, Xy_9ef.out, X18_9ef.out, X22_9ef.out, HG_g22.out, N4_g22.out, N5_g22.out, N9_g22.out, Nl_g22.out, Nx_g22.out, Ny_g22.out, N18_g22.out, XB_9ef.out⟩)
                clear X4_9d X5_9d X9_9d Xl_9d Xx_9d Xy_9d X18_9d XB_9d hHeld
                rintro g22 w19_j ⟨hS_, h0_, h1_, h2_, h3_, h4_, h5_, h6_, h7_, h8_, h9_, h10_, h11_, h12_, h13_, h14_, h15_, h16_⟩
                have X4_9g : Aside0 (w19_j.heap[g4]? = some (.cells #[.int .i64 a0_0, .int .i64 a0_1, .int .i64 a0_2, .int .i64 a0_3] 25 (0, 0))) := ⟨h0_⟩
                have X5_9g : Aside0 (w19_j.heap[g5]? = some (.cells #[.int .i64 a1_0, .int .i64 a1_1, .int .i64 a1_2] 23 (0, 0))) := ⟨h1_⟩
                have X9_9g : Aside0 (w19_j.heap[g9]? = some (.cells #[.int .i64 t0, .int .i64 t1, .int .i64 t2, .int .i64 t3] 30 (0, 0))) := ⟨h2_⟩
                have Xl_9g : Aside0 (w19_j.heap[gl]? = some (.cells #[.slice (some ⟨gx, 0, none⟩) 256 256, .slice (some ⟨gy, 0, none⟩) 256 256] 26 (0, 0))) := ⟨h3_⟩
                have Xx_9g : Aside0 (w19_j.heap[gx]? = some (.cells (nums .u8 (superL a0_0 a0_1 a0_2 a0_3)).toArray 54 (0, 0))) := ⟨h4_⟩
                have Xy_9g : Aside0 (w19_j.heap[gy]? = some (.cells (nums .u8 ((superL t0 t1 t2 t3).set q.toNat a3)).toArray 54 (0, 0))) := ⟨h5_⟩
                have X18_9g : Aside0 (w19_j.heap[g18]? = some (.cells #[.int .i64 t0, .int .i64 t1, .int .i64 t2, .int .i64 t3] 30 (0, 0))) := ⟨h6_⟩
                have X22_9g : Aside0 (w19_j.heap[g22]? = some (.cells #[.int .i64 0, .int .i64 0, .int .i64 0, .int .i64 0] 30 (0, 0))) := ⟨h7_⟩
                have HG_g22 : Aside0 (w.heap.size ≤ g22) := ⟨h8_⟩
                have N4_g22 : Aside0 (g4 ≠ g22) := ⟨h9_⟩
                have N5_g22 : Aside0 (g5 ≠ g22) := ⟨h10_⟩
                have N9_g22 : Aside0 (g9 ≠ g22) := ⟨h11_⟩
                have Nl_g22 : Aside0 (gl ≠ g22) := ⟨h12_⟩
                have Nx_g22 : Aside0 (gx ≠ g22) := ⟨h13_⟩
                have Ny_g22 : Aside0 (gy ≠ g22) := ⟨h14_⟩
                have N18_g22 : Aside0 (g18 ≠ g22) := ⟨h15_⟩
                have XB_9g : Aside0 (Below w.heap.size w w19_j) := ⟨h16_⟩
                clear h0_ h1_ h2_ h3_ h4_ h5_ h6_ h7_ h8_ h9_ h10_ h11_ h12_ h13_ h14_ h15_ h16_
                have hHeld : w19_j.cell? ⟨gl, 0, none⟩ = some (.slice (some ⟨gx, 0, none⟩) 256 256) ∧ w19_j.cell? ⟨gl, 1, none⟩ = some (.slice (some ⟨gy, 0, none⟩) 256 256) := hS_
                clear hS_
                refine norm_ (a' := ?_) ?_ ?_
                rotate_left
                · simp only [putAll, Act.put, List.setIfInBounds_toArray, List.set_cons_zero, List.set_cons_succ]
                  rfl
                refine one_ (i := 13) (N := none) #[true, true, true, true, true, true, true, true, true, true, true, true, true, true, false, false] rfl rfl (one_of HT_.out (by kernel_rfl)) (by decide) (fun K hK => ?_)
                have c22_9g_0 := (blk_cell X22_9g.out 0).trans (show _ = some (Value.int .i64 0) from rfl)
                have f22_9g_0 := blk_frozen X22_9g.out 0
                have c22_9g_1 := (blk_cell X22_9g.out 1).trans (show _ = some (Value.int .i64 0) from rfl)
                have f22_9g_1 := blk_frozen X22_9g.out 1
                have c22_9g_2 := (blk_cell X22_9g.out 2).trans (show _ = some (Value.int .i64 0) from rfl)
                have f22_9g_2 := blk_frozen X22_9g.out 2
                have c22_9g_3 := (blk_cell X22_9g.out 3).trans (show _ = some (Value.int .i64 0) from rfl)
                have f22_9g_3 := blk_frozen X22_9g.out 3
                have u1 := Nl_g22.out
                have u2 := Ne.symm Nl_g22.out
                refine skip_ (w1 := ?_) (by rfl) rfl ?_ ?_
                rotate_left
                · go_simp
                  rfl
                have xl_ := far4 (.int .i64 a0_0) (.int .i64 a0_1) (.int .i64 a0_2) (.int .i64 a0_3) Xl_9g.out Nl_g22.out
                refine hK.out _ _ ⟨(blk_cell xl_ 0).trans rfl, (blk_cell xl_ 1).trans rfl⟩ (fun hHeld => ?_)
                clear hK K xl_ u1 u2 c22_9g_0 f22_9g_0 c22_9g_1 f22_9g_1 c22_9g_2 f22_9g_2 c22_9g_3 f22_9g_3
                refine pure_ (i := 14) (N := some 23) (v := ?_) (a' := ?_) #[true, true, true, true, true, true, true, true, true, true, true, true, true, true, true, false] rfl rfl (any_of HT_.out (by kernel_rfl)) (fun _ _ _ h => h) (Or.inl ⟨by rfl, ?_⟩) ?_ ?_
                rotate_left
                · intro w'
                  go_simp
                  with_reducible rfl
                rotate_left
                · simp only [Act.put, List.setIfInBounds_toArray, List.set_cons_zero, List.set_cons_succ, i64_w, i32_w]
                  rfl
                refine pure_ (i := 15) (N := some 24) (v := ?_) (a' := ?_) #[true, true, true, true, true, true, true, true, true, true, true, true, true, true, true, true] rfl rfl (any_of HT_.out (by kernel_rfl)) (fun _ _ _ h => h) (Or.inl ⟨by rfl, ?_⟩) ?_ ?_
                rotate_left
                · intro w'
                  go_simp
                  with_reducible rfl
                rotate_left
                · simp only [Act.put, List.setIfInBounds_toArray, List.set_cons_zero, List.set_cons_succ, i64_w, i32_w]
                  rfl
                refine done_ (done_of HT_.out (by kernel_rfl)) ?_
                have X4_9z := Aside0.mk (far4 (.int .i64 a0_0) (.int .i64 a0_1) (.int .i64 a0_2) (.int .i64 a0_3) X4_9g.out N4_g22.out)
                have X5_9z := Aside0.mk (far4 (.int .i64 a0_0) (.int .i64 a0_1) (.int .i64 a0_2) (.int .i64 a0_3) X5_9g.out N5_g22.out)
                have X9_9z := Aside0.mk (far4 (.int .i64 a0_0) (.int .i64 a0_1) (.int .i64 a0_2) (.int .i64 a0_3) X9_9g.out N9_g22.out)
                have Xl_9z := Aside0.mk (far4 (.int .i64 a0_0) (.int .i64 a0_1) (.int .i64 a0_2) (.int .i64 a0_3) Xl_9g.out Nl_g22.out)
                have Xx_9z := Aside0.mk (far4 (.int .i64 a0_0) (.int .i64 a0_1) (.int .i64 a0_2) (.int .i64 a0_3) Xx_9g.out Nx_g22.out)
                have Xy_9z := Aside0.mk (far4 (.int .i64 a0_0) (.int .i64 a0_1) (.int .i64 a0_2) (.int .i64 a0_3) Xy_9g.out Ny_g22.out)
                have X18_9z := Aside0.mk (far4 (.int .i64 a0_0) (.int .i64 a0_1) (.int .i64 a0_2) (.int .i64 a0_3) X18_9g.out N18_g22.out)
                have X22_9z := Aside0.mk (put4 (.int .i64 a0_0) (.int .i64 a0_1) (.int .i64 a0_2) (.int .i64 a0_3) X22_9g.out)
                have XB_9z := Aside0.mk (below4 (.int .i64 a0_0) (.int .i64 a0_1) (.int .i64 a0_2) (.int .i64 a0_3) XB_9g.out HG_g22.out)
                clear hHeld X4_9g X5_9g X9_9g Xl_9g Xx_9g Xy_9g X18_9g X22_9g XB_9g
                obtain ⟨w19z, hwz⟩ : ∃ v, v = ((((w19_j.setCell ⟨g22, 0, none⟩ (.int .i64 a0_0)).setCell ⟨g22, 1, none⟩ (.int .i64 a0_1)).setCell ⟨g22, 2, none⟩ (.int .i64 a0_2)).setCell ⟨g22, 3, none⟩ (.int .i64 a0_3)) := ⟨_, rfl⟩
                rw [← hwz] at X4_9z X5_9z X9_9z Xl_9z Xx_9z Xy_9z X18_9z X22_9z XB_9z ⊢
                clear hwz
                have AT : Aside0 (leveelaw04_taken.f a0_0 a0_1 a0_2 a0_3 = some (a0_0, a0_1, a0_2, a0_3)) := ⟨rfl⟩
                go_wp2
                have X4_h := Aside0.mk (blk_drew X4_9z.out)
                have X22_h := Aside0.mk (blk_drew X22_9z.out)
                have XB_h := Aside0.mk (below_drew XB_9z.out)
                clear X4_9z X22_9z XB_9z
                have qa : (a0_0 == a0_0 && (a0_1 == a0_1 && (a0_2 == a0_2 && a0_3 == a0_3))) = true := by simp
                have qp1 : ((0 : Int) == wrap64 (1 - 1)) = true := by unfold wrap64; decide
                have qp2 : wrap64 (1 - 1) = 0 := by unfold wrap64; decide
                have qp3 : IntKind.i64.wrap (1 - 1) = 0 := by decide
                have qp4 : ((0 : Int) == 0) = true := by decide
                have qp5 : wrap64 1 = 1 := by unfold wrap64; decide
                have qp6 : wrap64 0 = 0 := by unfold wrap64; decide
                have qa0 : (a0_0 == a0_0) = true := beq_self_eq_true _
                have qa1 : (a0_1 == a0_1) = true := beq_self_eq_true _
                have qa2 : (a0_2 == a0_2) = true := beq_self_eq_true _
                have qa3 : (a0_3 == a0_3) = true := beq_self_eq_true _
                refine start_ (n := 18) (S := fun w' => w'.cell? ⟨g22, 0, none⟩ = some (.int .i64 a0_0) ∧ w'.cell? ⟨g22, 1, none⟩ = some (.int .i64 a0_1) ∧ w'.cell? ⟨g22, 2, none⟩ = some (.int .i64 a0_2) ∧ w'.cell? ⟨g22, 3, none⟩ = some (.int .i64 a0_3) ∧ w'.cell? ⟨g4, 0, none⟩ = some (.int .i64 a0_0) ∧ w'.cell? ⟨g4, 1, none⟩ = some (.int .i64 a0_1) ∧ w'.cell? ⟨g4, 2, none⟩ = some (.int .i64 a0_2) ∧ w'.cell? ⟨g4, 3, none⟩ = some (.int .i64 a0_3)) (ds := []) #[false, false, false, false, false, false, false, false, false, false, false, false, false, false, false, false, false, false] (by kernel_rfl) rfl rfl ⟨(blk_cell X22_h.out 0).trans rfl, (blk_cell X22_h.out 1).trans rfl, (blk_cell X22_h.out 2).trans rfl, (blk_cell X22_h.out 3).trans rfl, (blk_cell X4_h.out 0).trans rfl, (blk_cell X4_h.out 1).trans rfl, (blk_cell X4_h.out 2).trans rfl, (blk_cell X4_h.out 3).trans rfl⟩ (fun hHeld => ?_)
                refine with_tabW leveelaw04_SuperNext.tab20 leveelaw04_SuperNext.bits20 (fun HT_ HW_ => ?_)
                generalize w19z.drew = w20_0 at X4_h X22_h XB_h hHeld ⊢
                refine take_ (i := 0) (N := some 131) (v := ?_) (a' := ?_) #[true, false, false, false, false, false, false, false, false, false, false, false, false, false, false, false, false, false] rfl rfl (take_ofW HT_.out HW_.out (by kernel_rfl)) (fun _ _ _ h => h) (Or.inl ⟨by rfl, ?_⟩) hHeld ?_ ?_
                rotate_left
                · rintro w' ⟨s0, s1, s2, s3, s4, s5, s6, s7⟩
                  go_simp
                  with_reducible rfl
                rotate_left
                · simp only [Act.put, List.setIfInBounds_toArray, List.set_cons_zero, List.set_cons_succ, i64_w, i32_w]
                  rfl
                refine take_ (i := 2) (N := some 133) (v := ?_) (a' := ?_) #[true, false, true, false, false, false, false, false, false, false, false, false, false, false, false, false, false, false] rfl rfl (take_ofW HT_.out HW_.out (by kernel_rfl)) (fun _ _ _ h => h) (Or.inl ⟨by rfl, ?_⟩) hHeld ?_ ?_
                rotate_left
                · rintro w' ⟨s0, s1, s2, s3, s4, s5, s6, s7⟩
                  go_simp
                  with_reducible rfl
                rotate_left
                · simp only [Act.put, List.setIfInBounds_toArray, List.set_cons_zero, List.set_cons_succ, i64_w, i32_w]
                  rfl
                refine one_ (i := 1) (N := some 132) #[true, true, true, false, false, false, false, false, false, false, false, false, false, false, false, false, false, false] rfl rfl (one_of HT_.out (by kernel_rfl)) (by decide) (fun K hK => ?_)
                refine goes_ Try.func13 (by kernel_rfl) rfl #[.agg #[.int .i64 a0_0, .int .i64 a0_1, .int .i64 a0_2, .int .i64 a0_3]] (by rfl) rfl rfl (by (try simp only [List.map_toArray, List.map_cons, List.map_nil]); first | done | rfl) ?_
                with_reducible refine (leveelaw04_taken.calls a0_0 a0_1 a0_2 a0_3 a0_0 a0_1 a0_2 a0_3 _ AT.out).mono ?_
                rintro e w20_1 ⟨rfl, hb⟩
                refine ⟨_, rfl, ?_⟩
                have X4_i := Aside0.mk (blk_below X4_h.out hb)
                have X22_i := Aside0.mk (blk_below X22_h.out hb)
                have XB_i := Aside0.mk (below_step XB_h.out hb)
                clear hb X4_h X22_h XB_h
                refine hK.out _ _ ⟨(blk_cell X22_i.out 0).trans rfl, (blk_cell X22_i.out 1).trans rfl, (blk_cell X22_i.out 2).trans rfl, (blk_cell X22_i.out 3).trans rfl, (blk_cell X4_i.out 0).trans rfl, (blk_cell X4_i.out 1).trans rfl, (blk_cell X4_i.out 2).trans rfl, (blk_cell X4_i.out 3).trans rfl⟩ (fun hHeld => ?_)
                clear hK K
                refine norm_ (a' := ?_) ?_ ?_
                rotate_left
                · show Act.put _ (some 132) _ = _
                  simp only [Act.put, List.setIfInBounds_toArray, List.set_cons_zero, List.set_cons_succ, i64_w, i32_w]
                  rfl
                refine pure_ (i := 3) (N := some 134) (v := .bool true) (a' := ?_) #[true, true, true, true, false, false, false, false, false, false, false, false, false, false, false, false, false, false] rfl rfl (any_of HT_.out (by kernel_rfl)) (fun _ _ _ h => h) (Or.inl ⟨by rfl, ?_⟩) ?_ ?_
                · intro w'
                  go_simp
                  first | done | with_reducible rfl | rfl | (simp only [qp5, qp6]; rfl) | (simp [qp5, qp6]; done)
                rotate_left
                · simp only [Act.put, List.setIfInBounds_toArray, List.set_cons_zero, List.set_cons_succ, i64_w, i32_w]
                  rfl
                refine pure_ (i := 4) (N := some 135) (v := ?_) (a' := ?_) #[true, true, true, true, true, false, false, false, false, false, false, false, false, false, false, false, false, false] rfl rfl (any_of HT_.out (by kernel_rfl)) (fun _ _ _ h => h) (Or.inl ⟨by rfl, ?_⟩) ?_ ?_
                rotate_left
                · intro w'
                  go_simp
                  with_reducible rfl
                rotate_left
                · simp only [Act.put, List.setIfInBounds_toArray, List.set_cons_zero, List.set_cons_succ, i64_w, i32_w]
                  rfl
                refine pure_ (i := 5) (N := some 136) (v := ?_) (a' := ?_) #[true, true, true, true, true, true, false, false, false, false, false, false, false, false, false, false, false, false] rfl rfl (any_of HT_.out (by kernel_rfl)) (fun _ _ _ h => h) (Or.inl ⟨by rfl, ?_⟩) ?_ ?_
                rotate_left
                · intro w'
                  go_simp
                  with_reducible rfl
                rotate_left
                · simp only [Act.put, List.setIfInBounds_toArray, List.set_cons_zero, List.set_cons_succ, i64_w, i32_w]
                  rfl
                refine pure_ (i := 6) (N := some 137) (v := ?_) (a' := ?_) #[true, true, true, true, true, true, true, false, false, false, false, false, false, false, false, false, false, false] rfl rfl (any_of HT_.out (by kernel_rfl)) (fun _ _ _ h => h) (Or.inl ⟨by rfl, ?_⟩) ?_ ?_
                rotate_left
                · intro w'
                  go_simp
                  with_reducible rfl
                rotate_left
                · simp only [Act.put, List.setIfInBounds_toArray, List.set_cons_zero, List.set_cons_succ, i64_w, i32_w]
                  rfl
                refine pure_ (i := 7) (N := some 138) (v := ?_) (a' := ?_) #[true, true, true, true, true, true, true, true, false, false, false, false, false, false, false, false, false, false] rfl rfl (any_of HT_.out (by kernel_rfl)) (fun _ _ _ h => h) (Or.inl ⟨by rfl, ?_⟩) ?_ ?_
                rotate_left
                · intro w'
                  go_simp
                  with_reducible rfl
                rotate_left
                · simp only [Act.put, List.setIfInBounds_toArray, List.set_cons_zero, List.set_cons_succ, i64_w, i32_w]
                  rfl
                refine pure_ (i := 8) (N := some 139) (v := .bool true) (a' := ?_) #[true, true, true, true, true, true, true, true, true, false, false, false, false, false, false, false, false, false] rfl rfl (any_of HT_.out (by kernel_rfl)) (fun _ _ _ h => h) (Or.inl ⟨by rfl, ?_⟩) ?_ ?_
                · intro w'
                  go_simp
                  first | done | with_reducible rfl | rfl | (simp only [qp5, qp6]; rfl) | (simp [qp5, qp6]; done)
                rotate_left
                · simp only [Act.put, List.setIfInBounds_toArray, List.set_cons_zero, List.set_cons_succ, i64_w, i32_w]
                  rfl
                refine pure_ (i := 9) (N := some 140) (v := .bool true) (a' := ?_) #[true, true, true, true, true, true, true, true, true, true, false, false, false, false, false, false, false, false] rfl rfl (any_of HT_.out (by kernel_rfl)) (fun _ _ _ h => h) (Or.inl ⟨by rfl, ?_⟩) ?_ ?_
                · intro w'
                  go_simp
                  first | done | with_reducible rfl | rfl | (simp only [qp5, qp6]; rfl) | (simp [qp5, qp6]; done)
                rotate_left
                · simp only [Act.put, List.setIfInBounds_toArray, List.set_cons_zero, List.set_cons_succ, i64_w, i32_w]
                  rfl
                refine pure_ (i := 10) (N := some 141) (v := ?_) (a' := ?_) #[true, true, true, true, true, true, true, true, true, true, true, false, false, false, false, false, false, false] rfl rfl (any_of HT_.out (by kernel_rfl)) (fun _ _ _ h => h) (Or.inl ⟨by rfl, ?_⟩) ?_ ?_
                rotate_left
                · intro w'
                  go_simp
                  with_reducible rfl
                rotate_left
                · simp only [Act.put, List.setIfInBounds_toArray, List.set_cons_zero, List.set_cons_succ, i64_w, i32_w]
                  rfl
                refine pure_ (i := 11) (N := some 142) (v := ?_) (a' := ?_) #[true, true, true, true, true, true, true, true, true, true, true, true, false, false, false, false, false, false] rfl rfl (any_of HT_.out (by kernel_rfl)) (fun _ _ _ h => h) (Or.inl ⟨by rfl, ?_⟩) ?_ ?_
                rotate_left
                · intro w'
                  go_simp
                  with_reducible rfl
                rotate_left
                · simp only [Act.put, List.setIfInBounds_toArray, List.set_cons_zero, List.set_cons_succ, i64_w, i32_w]
                  rfl
                refine pure_ (i := 12) (N := some 143) (v := .bool true) (a' := ?_) #[true, true, true, true, true, true, true, true, true, true, true, true, true, false, false, false, false, false] rfl rfl (any_of HT_.out (by kernel_rfl)) (fun _ _ _ h => h) (Or.inl ⟨by rfl, ?_⟩) ?_ ?_
                · intro w'
                  go_simp
                  first | done | with_reducible rfl | rfl | (simp only [qp5, qp6]; rfl) | (simp [qp5, qp6]; done)
                rotate_left
                · simp only [Act.put, List.setIfInBounds_toArray, List.set_cons_zero, List.set_cons_succ, i64_w, i32_w]
                  rfl
                refine pure_ (i := 13) (N := some 144) (v := .bool true) (a' := ?_) #[true, true, true, true, true, true, true, true, true, true, true, true, true, true, false, false, false, false] rfl rfl (any_of HT_.out (by kernel_rfl)) (fun _ _ _ h => h) (Or.inl ⟨by rfl, ?_⟩) ?_ ?_
                · intro w'
                  go_simp
                  first | done | with_reducible rfl | rfl | (simp only [qp5, qp6]; rfl) | (simp [qp5, qp6]; done)
                rotate_left
                · simp only [Act.put, List.setIfInBounds_toArray, List.set_cons_zero, List.set_cons_succ, i64_w, i32_w]
                  rfl
                refine pure_ (i := 14) (N := some 145) (v := ?_) (a' := ?_) #[true, true, true, true, true, true, true, true, true, true, true, true, true, true, true, false, false, false] rfl rfl (any_of HT_.out (by kernel_rfl)) (fun _ _ _ h => h) (Or.inl ⟨by rfl, ?_⟩) ?_ ?_
                rotate_left
                · intro w'
                  go_simp
                  with_reducible rfl
                rotate_left
                · simp only [Act.put, List.setIfInBounds_toArray, List.set_cons_zero, List.set_cons_succ, i64_w, i32_w]
                  rfl
                refine one_ (i := 15) (N := some 146) #[true, true, true, true, true, true, true, true, true, true, true, true, true, true, true, true, false, false] rfl rfl (one_of HT_.out (by kernel_rfl)) (by decide) (fun K hK => ?_)
                refine goes_ Try.func15 (by kernel_rfl) rfl #[] (by rfl) rfl rfl (by (try simp only [List.map_toArray, List.map_cons, List.map_nil]); first | done | rfl) ?_
                with_reducible refine (leveelaw04_known.calls k r _ HKn.out).mono ?_
                rintro e w20_2 ⟨rfl, hb⟩
                refine ⟨_, rfl, ?_⟩
                have X4_j := Aside0.mk (blk_below X4_i.out hb)
                have X22_j := Aside0.mk (blk_below X22_i.out hb)
                have XB_j := Aside0.mk (below_step XB_i.out hb)
                clear hb X4_i X22_i XB_i
                refine hK.out _ _ ⟨(blk_cell X22_j.out 0).trans rfl, (blk_cell X22_j.out 1).trans rfl, (blk_cell X22_j.out 2).trans rfl, (blk_cell X22_j.out 3).trans rfl, (blk_cell X4_j.out 0).trans rfl, (blk_cell X4_j.out 1).trans rfl, (blk_cell X4_j.out 2).trans rfl, (blk_cell X4_j.out 3).trans rfl⟩ (fun hHeld => ?_)
                clear hK K
                refine norm_ (a' := ?_) ?_ ?_
                rotate_left
                · show Act.put _ (some 146) _ = _
                  simp only [Act.put, List.setIfInBounds_toArray, List.set_cons_zero, List.set_cons_succ, i64_w, i32_w]
                  rfl
                refine pure_ (i := 16) (N := some 147) (v := ?_) (a' := ?_) #[true, true, true, true, true, true, true, true, true, true, true, true, true, true, true, true, true, false] rfl rfl (any_of HT_.out (by kernel_rfl)) (fun _ _ _ h => h) (Or.inl ⟨by rfl, ?_⟩) ?_ ?_
                rotate_left
                · intro w'
                  go_simp
                  with_reducible rfl
                rotate_left
                · simp only [Act.put, List.setIfInBounds_toArray, List.set_cons_zero, List.set_cons_succ, i64_w, i32_w]
                  rfl
                refine pure_ (i := 17) (N := some 8) (v := ?_) (a' := ?_) #[true, true, true, true, true, true, true, true, true, true, true, true, true, true, true, true, true, true] rfl rfl (any_of HT_.out (by kernel_rfl)) (fun _ _ _ h => h) (Or.inl ⟨by rfl, ?_⟩) ?_ ?_
                rotate_left
                · intro w'
                  go_simp
                  with_reducible rfl
                rotate_left
                · simp only [Act.put, List.setIfInBounds_toArray, List.set_cons_zero, List.set_cons_succ, i64_w, i32_w]
                  rfl
                refine done_ (done_of HT_.out (by kernel_rfl)) ?_
                go_wp2
                go_ret
                exact ⟨rfl, XB_j.out⟩
              · rw [if_neg hC2] at H
                cases H
        · rw [if_neg hh] at H
          cases H
    · rw [if_neg hh] at H
      cases H
  · rw [if_neg he] at H
    have HKn := Aside0.mk H
    have e1 : (e == 0) = false := beq_eq_false_iff_ne.mpr he
    have e2 : (e != 0) = true := bne_iff_ne.mpr he
    clear H
    go_wp2_with (first | (go_at_call 15; with_reducible refine (leveelaw04_known.calls k r _ HKn.out).mono ?_; rintro e w21 ⟨rfl, hb⟩; have XB_1 := Aside0.mk (below_step XB_0.out hb); clear hb))
    go_ret
    exact ⟨rfl, XB_1.out⟩
end Go.Proofs.Ytjblkjknkemkdaa.P
