/-
The contract of inode.Get: printed out of the kit's print, the copy by hand.
Conditions: none.
-/
import Derived.Test.YthcndfnmgggblaaPx0
import Derived.Test.YthcndfnmgggblaaHand
import Derived.Test.YthcndfnmgggblaaHandInode
import Derived.Test.YthcndfnmgggblaaPx4
import Derived.Test.YthcndfnmgggblaaPx9
import Derived.Laws.CopyOwn
import Derived.Test.YthcndfnmgggblaaCells
import Derived.StillTailTactics
-- PRINTED by print.py (a twelfth state) out of the translation. Not trusted: Lean checks it.
namespace Go.Proofs.Ythcndfnmgggblaa.P
open Go.RowKit Go.Proofs.YthcndfnmgggblaaW.PrintWords Go.Proofs.YthcndfnmgggblaaW.PrintLast Go.Proofs.YthcndfnmgggblaaW.PrintMore
attribute [local go_sem] max2_int min2_int max_two min_two max_three min_three max_four min_four   -- for this text's walks alone
set_option linter.unusedVariables false
set_option linter.unusedSimpArgs false

theorem copy_far {P : Program} {w : World} {ops : Array Oper} {rest : List Oper} {o : Oper} {a : Act} {Q : Exit → Act → World → Prop} (hgd : o.guard = none) (d s : Operand) (dT sT : TypeId)
    (ho : o.op = .call { callee := .builtin .copy, args := #[d, s], argTypes := #[dT, sT] }) (elem : TypeId) (hu : P.underlying dT = some (.slice elem)) (hsz : (P.info? elem).map (·.size) = some 1)
    (dp sp : Option Addr) (dLen dCap sLen sCap : Nat) (hd : a.eval d = .slice dp dLen dCap) (hs : a.eval s = .slice sp sLen sCap)
    (g off : Nat) (cur : List Value) (t : TypeId) (hg : w.heap[g]? = some (.cells cur.toArray t (0, 0))) (cs : List Value) (hn : cs.length = Nat.min sLen dLen) (hcs : 0 < cs.length)
    (hpos : 0 < cs.length → dp = some ⟨g, off, none⟩ ∧ ∃ ad, sp = some ad ∧ ∀ j v, cs[j]? = some v → w.cell? (ad.add j) = some v)
    (hfit : off + cs.length ≤ cur.length) (h1 : ∀ v ∈ cs, v.oneCell' = true) (B : Nat) (w0 : World) (hb : Below B w0 w) (hBg : B ≤ g)
    (h : ∀ w', w'.heap[g]? = some (.cells (splice cur off cs).toArray t (0, 0)) → (∀ k, k ≠ g → w'.heap[k]? = w.heap[k]?) → Below B w0 w' → wpList P ops Q rest (a.put o.dst (goInt cs.length)) w') :
    wpList P ops Q (o :: rest) a w := by
  obtain ⟨rfl, ad, rfl, hsrc⟩ := hpos hcs
  refine wpList_copy_own hgd d s dT sT ho elem hu hsz g off dLen dCap ad sLen sCap hd hs cur.toArray t hg cs hn hsrc (by simpa using hfit) h1 ?_
  exact h _ (by simpa [splice] using setRow_heap w g _ _ t _ hg) (fun k hk => setRow_other w g k _ hk) (below_setRow hb hBg _)
/-! ### inode_Get: function 9 -/
def inode_Get.l0 : Nat → List Int → Int → Int → Int → Int → Int → Int → Int → Int → Int → Int → Int → Int → Int → Int → Int → Int → Int → Int → Int → Int → Int → Option (Int × Int × Int × Int × Int × Int × Int × Int × Int × Int × Int × Int × Int)
 | 0, _, _, _, _, _, _, _, _, _, _, _, _, _, _, _, _, _, _, _, _, _, _ => none
 | k + 1, x0, x28, x209000, x209001, x209002, x209003, x209004, x209005, x209006, x209007, x209008, x209009, x209010, x209011, x210000, x210001, x210002, x210003, x210004, x210005, x210006, x210007 => if x28 < 8 then (if 0 ≤ (wrap64 (16 + (wrap64 (x28 * 2)))) then (if (wrap64 (16 + (wrap64 (x28 * 2)))) ≤ (wrap64 (16 + (wrap64 ((wrap64 (x28 + 1)) * 2)))) then (if (wrap64 (16 + (wrap64 ((wrap64 (x28 + 1)) * 2)))) ≤ (x0.length : Int) then ((num_Get.f k ((x0.take ((wrap64 (16 + (wrap64 ((wrap64 (x28 + 1)) * 2)))) : Int).toNat).drop ((wrap64 (16 + (wrap64 (x28 * 2)))) : Int).toNat)).bind fun t211 => (if x28 = (0 : Int) then (inode_Get.l0 k x0 (wrap64 (x28 + 1)) x209000 x209001 x209002 x209003 x209004 x209005 x209006 x209007 x209008 x209009 x209010 x209011 (wrap64 (t211)) x210001 x210002 x210003 x210004 x210005 x210006 x210007) else (if x28 = (1 : Int) then (inode_Get.l0 k x0 (wrap64 (x28 + 1)) x209000 x209001 x209002 x209003 x209004 x209005 x209006 x209007 x209008 x209009 x209010 x209011 x210000 (wrap64 (t211)) x210002 x210003 x210004 x210005 x210006 x210007) else (if x28 = (2 : Int) then (inode_Get.l0 k x0 (wrap64 (x28 + 1)) x209000 x209001 x209002 x209003 x209004 x209005 x209006 x209007 x209008 x209009 x209010 x209011 x210000 x210001 (wrap64 (t211)) x210003 x210004 x210005 x210006 x210007) else (if x28 = (3 : Int) then (inode_Get.l0 k x0 (wrap64 (x28 + 1)) x209000 x209001 x209002 x209003 x209004 x209005 x209006 x209007 x209008 x209009 x209010 x209011 x210000 x210001 x210002 (wrap64 (t211)) x210004 x210005 x210006 x210007) else (if x28 = (4 : Int) then (inode_Get.l0 k x0 (wrap64 (x28 + 1)) x209000 x209001 x209002 x209003 x209004 x209005 x209006 x209007 x209008 x209009 x209010 x209011 x210000 x210001 x210002 x210003 (wrap64 (t211)) x210005 x210006 x210007) else (if x28 = (5 : Int) then (inode_Get.l0 k x0 (wrap64 (x28 + 1)) x209000 x209001 x209002 x209003 x209004 x209005 x209006 x209007 x209008 x209009 x209010 x209011 x210000 x210001 x210002 x210003 x210004 (wrap64 (t211)) x210006 x210007) else (if x28 = (6 : Int) then (inode_Get.l0 k x0 (wrap64 (x28 + 1)) x209000 x209001 x209002 x209003 x209004 x209005 x209006 x209007 x209008 x209009 x209010 x209011 x210000 x210001 x210002 x210003 x210004 x210005 (wrap64 (t211)) x210007) else (if x28 = (7 : Int) then (inode_Get.l0 k x0 (wrap64 (x28 + 1)) x209000 x209001 x209002 x209003 x209004 x209005 x209006 x209007 x209008 x209009 x209010 x209011 x210000 x210001 x210002 x210003 x210004 x210005 x210006 (wrap64 (t211))) else (none)))))))))) else (none)) else (none)) else (none)) else ((inode_all.f x209000 x209001 x209002 x209003 x210000 x210001 x210002 x210003 x210004 x210005 x209010 x209011).bind fun bt212 => (if 1 < (x0.length : Int) then (if (rd x0 1) = 0 then (if 32 ≤ (x0.length : Int) then ((num_Zero.f k (x0.drop 32)).bind fun t222 => (if t222 = true then ((inode_Right.f k x209000 x209001 x209002 x209003 x210000 x210001 x210002 x210003 x210004 x210005 x210006 x210007).bind fun t223 => (if t223 = true then (some (x209000, x209001, x209002, x209003, x210000, x210001, x210002, x210003, x210004, x210005, x210006, x210007, 0)) else (some (0, 0, 0, 0, 0, 0, 0, 0, 0, 0, 0, 0, 8)))) else (some (0, 0, 0, 0, 0, 0, 0, 0, 0, 0, 0, 0, 8)))) else (none)) else (some (0, 0, 0, 0, 0, 0, 0, 0, 0, 0, 0, 0, 8))) else (none)))
def inode_Get.f (k : Nat) (l0 : List Int) : Option (Int × Int × Int × Int × Int × Int × Int × Int × Int × Int × Int × Int × Int) := if (l0.length : Int) = 64 then (if 0 < (l0.length : Int) then (if 2 ≤ 4 then (if 4 ≤ (l0.length : Int) then ((num_Get.f k ((l0.take 4).drop 2)).bind fun t203 => (if 4 ≤ 8 then (if 8 ≤ (l0.length : Int) then ((num_Get.f k ((l0.take 8).drop 4)).bind fun t205 => (if 8 ≤ 16 then (if 16 ≤ (l0.length : Int) then ((num_Get.f k ((l0.take 16).drop 8)).bind fun t207 => (inode_Get.l0 k l0 0 (wrap64 (rd l0 0)) (wrap64 (t203)) (wrap64 (t205)) (wrap64 (t207)) 0 0 0 0 0 0 0 0 0 0 0 0 0 0 0 0)) else (none)) else (none))) else (none)) else (none))) else (none)) else (none)) else (none)) else (some (0, 0, 0, 0, 0, 0, 0, 0, 0, 0, 0, 0, 4))
theorem inode_Get.mono_l : ∀ k, (∀ y0 y1 y2 y3 y4 y5 y6 y7 y8 y9 y10 y11 y12 y13 y14 y15 y16 y17 y18 y19 y20 y21, LeO (inode_Get.l0 k y0 y1 y2 y3 y4 y5 y6 y7 y8 y9 y10 y11 y12 y13 y14 y15 y16 y17 y18 y19 y20 y21) (inode_Get.l0 (k + 1) y0 y1 y2 y3 y4 y5 y6 y7 y8 y9 y10 y11 y12 y13 y14 y15 y16 y17 y18 y19 y20 y21))
 | 0 => fun _ _ _ _ _ _ _ _ _ _ _ _ _ _ _ _ _ _ _ _ _ _ r h => by simp [inode_Get.l0] at h
 | k + 1 => by
  have ih0 := inode_Get.mono_l k
  ·intro y0 y1 y2 y3 y4 y5 y6 y7 y8 y9 y10 y11 y12 y13 y14 y15 y16 y17 y18 y19 y20 y21
   unfold inode_Get.l0
   repeat' first
   | (with_reducible exact ih0 _ _ _ _ _ _ _ _ _ _ _ _ _ _ _ _ _ _ _ _ _ _)
   | (with_reducible exact inode_Right.mono _ _ _ _ _ _ _ _ _ _ _ _ _)
   | (with_reducible exact num_Get.mono _ _)
   | (with_reducible exact num_Zero.mono _ _)
   | (with_reducible exact LeO.refl _)
   | (with_reducible exact LeO.none _)
   | (with_reducible refine LeO.ite ?_ ?_)
   | (with_reducible refine LeO.bind ?_ (fun _ => ?_))
   | exact ih0 _ _ _ _ _ _ _ _ _ _ _ _ _ _ _ _ _ _ _ _ _ _
   | exact inode_Right.mono _ _ _ _ _ _ _ _ _ _ _ _ _
   | exact num_Get.mono _ _
   | exact num_Zero.mono _ _
   | exact LeO.none _
   | refine LeO.ite ?_ ?_
   | refine LeO.bind ?_ (fun _ => ?_)
theorem inode_Get.mono : ∀ a0 k, LeO (inode_Get.f k a0) (inode_Get.f (k + 1) a0) := by
 intro a0 k
 have ih0 := inode_Get.mono_l k
 unfold inode_Get.f
 repeat' first
   | (with_reducible exact ih0 _ _ _ _ _ _ _ _ _ _ _ _ _ _ _ _ _ _ _ _ _ _)
   | (with_reducible exact inode_Right.mono _ _ _ _ _ _ _ _ _ _ _ _ _)
   | (with_reducible exact num_Get.mono _ _)
   | (with_reducible exact num_Zero.mono _ _)
   | (with_reducible exact LeO.refl _)
   | (with_reducible exact LeO.none _)
   | (with_reducible refine LeO.ite ?_ ?_)
   | (with_reducible refine LeO.bind ?_ (fun _ => ?_))
   | exact ih0 _ _ _ _ _ _ _ _ _ _ _ _ _ _ _ _ _ _ _ _ _ _
   | exact inode_Right.mono _ _ _ _ _ _ _ _ _ _ _ _ _
   | exact num_Get.mono _ _
   | exact num_Zero.mono _ _
   | exact LeO.none _
   | refine LeO.ite ?_ ?_
   | refine LeO.bind ?_ (fun _ => ?_)
def inode_Get.T3 : Bool × List (List Nat × List Nat) := (true, [([], []), ([0], [0]), ([1], [1]), ([2], [2]), ([], []), ([4], [4]), ([5], [5]), ([6], [6]), ([], []), ([8], [8]), ([9, 6], [9]), ([10], [10]), ([], []), ([12], [12]), ([13, 10], [13]), ([14], [14]), ([3, 7, 11, 15], [3, 7, 11, 15]), ([], []), ([17, 16, 14, 0, 1, 2, 3, 4, 5, 6, 7, 8, 9, 10, 11, 12, 13, 14, 15, 16, 17], [16, 17])])
def inode_Get.B3 : List Nat := [0, 1, 3, 7, 0, 16, 48, 112, 0, 256, 880, 1904, 0, 4096, 14192, 30576, 65535, 0, 262143]
theorem inode_Get.tab3 : rtab .any (opsOf Try.f9 3) = inode_Get.T3 := by kernel_rfl
theorem inode_Get.bits3 : waitsOk inode_Get.T3.2 inode_Get.B3 = true := by kernel_rfl
set_option maxHeartbeats 8000000 in
set_option maxRecDepth 100000 in
theorem inode_Get.calls (k : Nat) (A0 : Option Addr) (c0 : Nat) (l0 : List Int) (r1 : Int) (r2 : Int) (r3 : Int) (r4 : Int) (r5 : Int) (r6 : Int) (r7 : Int) (r8 : Int) (r9 : Int) (r10 : Int) (r11 : Int) (r12 : Int) (r13 : Int) (w : World) (hr0 : Kd.C (Kd.int .u8) w A0 l0.length l0) (hc0 : l0.length ≤ c0) (h : inode_Get.f k l0 = some (r1, r2, r3, r4, r5, r6, r7, r8, r9, r10, r11, r12, r13)) :
  Calls Try.prog 9 #[.slice A0 l0.length c0] w fun e w' => e = .returned (.tuple #[.agg #[.int .i64 r1, .int .i64 r2, .int .i64 r3, .int .i64 r4, .int .i64 r5, .int .i64 r6, .int .i64 r7, .int .i64 r8, .int .i64 r9, .int .i64 r10, .int .i64 r11, .int .i64 r12], .int .i64 r13]) ∧ Below w.heap.size w w' := by
 have hu24 := Try.underlying24
 have hu49 := Try.underlying49
 have hsz3_ : (Try.prog.info? 3).map (·.size) = some 1 := by kernel_rfl
 have HR0 := Aside0.mk hr0
 have HC0 := Aside0.mk hc0
 clear hr0 hc0
 have HB := Aside0.mk (Below.refl w.heap.size w)
 have H : (if (l0.length : Int) = 64 then (if 0 < (l0.length : Int) then (if 2 ≤ 4 then (if 4 ≤ (l0.length : Int) then ((num_Get.f k ((l0.take 4).drop 2)).bind fun t203 => (if 4 ≤ 8 then (if 8 ≤ (l0.length : Int) then ((num_Get.f k ((l0.take 8).drop 4)).bind fun t205 => (if 8 ≤ 16 then (if 16 ≤ (l0.length : Int) then ((num_Get.f k ((l0.take 16).drop 8)).bind fun t207 => (inode_Get.l0 k l0 0 (wrap64 (rd l0 0)) (wrap64 (t203)) (wrap64 (t205)) (wrap64 (t207)) 0 0 0 0 0 0 0 0 0 0 0 0 0 0 0 0)) else (none)) else (none))) else (none)) else (none))) else (none)) else (none)) else (none)) else (some (0, 0, 0, 0, 0, 0, 0, 0, 0, 0, 0, 0, 4))) = some (r1, r2, r3, r4, r5, r6, r7, r8, r9, r10, r11, r12, r13) := h
 clear h
 by_cases c2 : (l0.length : Int) = 64
 ·rw [if_pos c2] at H
  have c2b0 : ((l0.length : Int) == 64) = true := beq_iff_eq.mpr c2
  have c2b1 : ((l0.length : Int) != 64) = false := bne_eq_false_iff_eq.mpr c2
  clear c2
  by_cases c3 : 0 < (l0.length : Int)
  ·rw [if_pos c3] at H
   have c3b0 : decide (0 < (l0.length : Int)) = true := decide_eq_true c3
   have c3b1 : decide (0 < l0.length) = true := decide_eq_true (by omega)
   clear c3
   by_cases c4 : 2 ≤ 4
   ·rw [if_pos c4] at H
    have c4b0 := eq_true c4
    have c4b1 : decide (2 ≤ 4) = true := decide_eq_true c4
    clear c4
    by_cases c5 : 4 ≤ (l0.length : Int)
    ·rw [if_pos c5] at H
     have c5b0 := eq_true c5
     have c5b1 : decide (4 ≤ (l0.length : Int)) = true := decide_eq_true c5
     clear c5
     replace H := Option.bind_eq_some_iff.mp H
     obtain ⟨t203, A60, H⟩ := H
     replace H : (if 4 ≤ 8 then (if 8 ≤ (l0.length : Int) then ((num_Get.f k ((l0.take 8).drop 4)).bind fun t205 => (if 8 ≤ 16 then (if 16 ≤ (l0.length : Int) then ((num_Get.f k ((l0.take 16).drop 8)).bind fun t207 => (inode_Get.l0 k l0 0 (wrap64 (rd l0 0)) (wrap64 (t203)) (wrap64 (t205)) (wrap64 (t207)) 0 0 0 0 0 0 0 0 0 0 0 0 0 0 0 0)) else (none)) else (none))) else (none)) else (none)) = some (r1, r2, r3, r4, r5, r6, r7, r8, r9, r10, r11, r12, r13) := H
     have A6 := Aside0.mk A60
     clear A60
     by_cases c7 : 4 ≤ 8
     ·rw [if_pos c7] at H
      have c7b0 := eq_true c7
      have c7b1 : decide (4 ≤ 8) = true := decide_eq_true c7
      clear c7
      by_cases c8 : 8 ≤ (l0.length : Int)
      ·rw [if_pos c8] at H
       have c8b0 := eq_true c8
       have c8b1 : decide (8 ≤ (l0.length : Int)) = true := decide_eq_true c8
       clear c8
       replace H := Option.bind_eq_some_iff.mp H
       obtain ⟨t205, A90, H⟩ := H
       replace H : (if 8 ≤ 16 then (if 16 ≤ (l0.length : Int) then ((num_Get.f k ((l0.take 16).drop 8)).bind fun t207 => (inode_Get.l0 k l0 0 (wrap64 (rd l0 0)) (wrap64 (t203)) (wrap64 (t205)) (wrap64 (t207)) 0 0 0 0 0 0 0 0 0 0 0 0 0 0 0 0)) else (none)) else (none)) = some (r1, r2, r3, r4, r5, r6, r7, r8, r9, r10, r11, r12, r13) := H
       have A9 := Aside0.mk A90
       clear A90
       by_cases c10 : 8 ≤ 16
       ·rw [if_pos c10] at H
        have c10b0 := eq_true c10
        have c10b1 : decide (8 ≤ 16) = true := decide_eq_true c10
        clear c10
        by_cases c11 : 16 ≤ (l0.length : Int)
        ·rw [if_pos c11] at H
         have c11b0 := eq_true c11
         have c11b1 : decide (16 ≤ (l0.length : Int)) = true := decide_eq_true c11
         clear c11
         replace H := Option.bind_eq_some_iff.mp H
         obtain ⟨t207, A120, H⟩ := H
         replace H : (inode_Get.l0 k l0 0 (wrap64 (rd l0 0)) (wrap64 (t203)) (wrap64 (t205)) (wrap64 (t207)) 0 0 0 0 0 0 0 0 0 0 0 0 0 0 0 0) = some (r1, r2, r3, r4, r5, r6, r7, r8, r9, r10, r11, r12, r13) := H
         have A12 := Aside0.mk A120
         clear A120
         have H' := Aside0.mk H
         clear H
         go_enter Try.func9, Try.ntmps9
         try go_wp2_with (first | ((with_reducible refine gate_dst (N := 2) rfl ?_); refine box_event ?hg (N := 2) ?hd (cs := #[.int .i64 0, .int .i64 0, .int .i64 0, .int .i64 0, .int .i64 0, .int .i64 0, .int .i64 0, .int .i64 0, .int .i64 0, .int .i64 0, .int .i64 0, .int .i64 0]) (t := 24) ?hr ?_; (case hd => rfl); (case hg => rfl); (case hr => first | (go_simp; done) | (go_simp; rfl)); intro gb200 hg w13 hbox hb; have n0_ := Aside0.mk (below_step (by repeat (first | (with_reducible first | exact HB.out | apply below_alloc | apply pw_below_drewN | apply below_drew1) | exact HB.out)) hb); have n1_ := Aside0.mk (hbox); have n2_ := Aside0.mk ((by rw [hg]; exact (below_size (by repeat (first | (with_reducible first | exact HB.out | apply below_alloc | apply pw_below_drewN | apply below_drew1) | exact HB.out))) : w.heap.size ≤ gb200)); have n3_ := Aside0.mk ((by rw [hg]; exact (below_size (by repeat (first | (with_reducible first | exact HB.out | apply below_alloc | apply pw_below_drewN | apply below_drew1) | exact HB.out))) : w.heap.size ≤ gb200)); clear HB; have HB := n0_; have BK200 := n1_; have GW200 := n2_; have GE200 := n3_; clear n0_ n1_ n2_ n3_; clear hb hbox hg))
         have n0_ := Aside0.mk (blk_drew BK200.out)
         have n1_ := Aside0.mk (below_drew1 HB.out)
         clear BK200
         clear HB
         have BK200 := n0_
         have HB := n1_
         clear n0_ n1_
         have p201 : 0 ≤ (0 : Int) := (by omega)
         have q201 : 0 < (l0.length : Int) := of_decide_eq_true (by first | (with_reducible assumption) | assumption)
         obtain ⟨ad201, e201, hx201_0⟩ := Kd.at_int HR0.out 0 p201 q201
         have hw201_0 := hx201_0
         (try rw [show ((0 : Int)).toNat = 0 from rfl] at hw201_0)
         (try rw [show 0 * 1 = 0 from rfl] at hw201_0)
         (try rw [Addr.add_zero'] at hw201_0)
         cases e201
         have qi201 : (0 < l0.length) = True := eq_true (by omega)
         (try rw [show ((0 : Int)).toNat = 0 from rfl] at hx201_0)
         (try rw [Addr.add_zero'] at hx201_0)
         replace hx201_0 := (HB.out.cell (World.block_lt_of_cell? w _ hx201_0)).trans hx201_0
         replace p201 := eq_true p201
         replace q201 := eq_true q201
         obtain ⟨i015, hi015, _, hsz15, _⟩ := info_parts info5
         obtain ⟨A15, hcut15, hA15, hC15⟩ := print_mid_of (P := Try.prog) (Value.int .u8) 0 25 5 .i64 .i64 Try.underlying25 hi015 hsz15 (some ad201) c0 l0 2 4 (by omega) (by first | omega | exact of_decide_eq_true (by first | (with_reducible assumption) | assumption)) (of_decide_eq_true (by first | (with_reducible assumption) | assumption)) HC0.out
         have HR202 := Aside0.mk (Kd.C_of_reads (h1 := fun _ => rfl) (hA15 _ (Kd.reads_of_C HR0.out)))
         have HC202 := Aside0.mk hC15
         clear hA15 hC15 hi015 hsz15
         obtain ⟨i016, hi016, _, hsz16, _⟩ := info_parts info5
         obtain ⟨A16, hcut16, hA16, hC16⟩ := print_mid_of (P := Try.prog) (Value.int .u8) 0 25 5 .i64 .i64 Try.underlying25 hi016 hsz16 (some ad201) c0 l0 4 8 (by omega) (by first | omega | exact of_decide_eq_true (by first | (with_reducible assumption) | assumption)) (of_decide_eq_true (by first | (with_reducible assumption) | assumption)) HC0.out
         have HR204 := Aside0.mk (Kd.C_of_reads (h1 := fun _ => rfl) (hA16 _ (Kd.reads_of_C HR0.out)))
         have HC204 := Aside0.mk hC16
         clear hA16 hC16 hi016 hsz16
         obtain ⟨i017, hi017, _, hsz17, _⟩ := info_parts info5
         obtain ⟨A17, hcut17, hA17, hC17⟩ := print_mid_of (P := Try.prog) (Value.int .u8) 0 25 5 .i64 .i64 Try.underlying25 hi017 hsz17 (some ad201) c0 l0 8 16 (by omega) (by first | omega | exact of_decide_eq_true (by first | (with_reducible assumption) | assumption)) (of_decide_eq_true (by first | (with_reducible assumption) | assumption)) HC0.out
         have HR206 := Aside0.mk (Kd.C_of_reads (h1 := fun _ => rfl) (hA17 _ (Kd.reads_of_C HR0.out)))
         have HC206 := Aside0.mk hC17
         clear hA17 hC17 hi017 hsz17
         refine start_ (n := 19) (S := fun w' => w'.cell? ad201 = some (.int .u8 (rd l0 0))) (ds := []) #[false, false, false, false, false, false, false, false, false, false, false, false, false, false, false, false, false, false, false] (by kernel_rfl) rfl rfl (((HB.out.cell (World.block_lt_of_cell? w _ hw201_0)).trans hw201_0)) (fun hHeld => ?_); refine with_tabW inode_Get.tab3 inode_Get.bits3 (fun HT_ HW_ => ?_)
         generalize w13.drew = w14 at BK200 HB HR202 HR204 HR206 hx201_0 hHeld ⊢
         refine pure_ (i := 0) (N := some 11) (v := ?_) (a' := ?_) #[true, false, false, false, false, false, false, false, false, false, false, false, false, false, false, false, false, false, false] rfl rfl (any_of HT_.out (by kernel_rfl)) (fun _ _ _ h => h) (Or.inl ⟨by rfl, ?_⟩) ?_ ?_
         rotate_left
         ·intro w'
          go_simp
          with_reducible rfl
         rotate_left
         ·simp only [Act.put, List.setIfInBounds_toArray, List.set_cons_zero, List.set_cons_succ, i64_w, i32_w]
          rfl
         refine pure_ (i := 1) (N := some 12) (v := ?_) (a' := ?_) #[true, true, false, false, false, false, false, false, false, false, false, false, false, false, false, false, false, false, false] rfl rfl (any_of HT_.out (by kernel_rfl)) (fun _ _ _ h => h) (Or.inl ⟨by rfl, ?_⟩) ?_ ?_
         rotate_left
         ·intro w'
          go_simp
          with_reducible rfl
         rotate_left
         ·simp only [Act.put, List.setIfInBounds_toArray, List.set_cons_zero, List.set_cons_succ, i64_w, i32_w]
          rfl
         refine pure_ (i := 4) (N := some 15) (v := ?_) (a' := ?_) #[true, true, false, false, true, false, false, false, false, false, false, false, false, false, false, false, false, false, false] rfl rfl (any_of HT_.out (by kernel_rfl)) (fun _ _ _ h => h) (Or.inl ⟨by rfl, ?_⟩) ?_ ?_
         rotate_left
         ·intro w'
          go_simp
          with_reducible rfl
         rotate_left
         ·simp only [Act.put, List.setIfInBounds_toArray, List.set_cons_zero, List.set_cons_succ, i64_w, i32_w]
          rfl
         refine pure_ (i := 5) (N := some 16) (v := ?_) (a' := ?_) #[true, true, false, false, true, true, false, false, false, false, false, false, false, false, false, false, false, false, false] rfl rfl (any_of HT_.out (by kernel_rfl)) (fun _ _ _ h => h) (Or.inl ⟨by rfl, ?_⟩) ?_ ?_
         rotate_left
         ·intro w'
          go_simp
          with_reducible rfl
         rotate_left
         ·simp only [Act.put, List.setIfInBounds_toArray, List.set_cons_zero, List.set_cons_succ, i64_w, i32_w]
          rfl
         refine pure_ (i := 8) (N := some 19) (v := ?_) (a' := ?_) #[true, true, false, false, true, true, false, false, true, false, false, false, false, false, false, false, false, false, false] rfl rfl (any_of HT_.out (by kernel_rfl)) (fun _ _ _ h => h) (Or.inl ⟨by rfl, ?_⟩) ?_ ?_
         rotate_left
         ·intro w'
          go_simp
          with_reducible rfl
         rotate_left
         ·simp only [Act.put, List.setIfInBounds_toArray, List.set_cons_zero, List.set_cons_succ, i64_w, i32_w]
          rfl
         refine pure_ (i := 9) (N := some 20) (v := ?_) (a' := ?_) #[true, true, false, false, true, true, false, false, true, true, false, false, false, false, false, false, false, false, false] rfl rfl (any_of HT_.out (by kernel_rfl)) (fun _ _ _ h => h) (Or.inl ⟨by rfl, ?_⟩) ?_ ?_
         rotate_left
         ·intro w'
          go_simp
          with_reducible rfl
         rotate_left
         ·simp only [Act.put, List.setIfInBounds_toArray, List.set_cons_zero, List.set_cons_succ, i64_w, i32_w]
          rfl
         refine pure_ (i := 12) (N := some 23) (v := ?_) (a' := ?_) #[true, true, false, false, true, true, false, false, true, true, false, false, true, false, false, false, false, false, false] rfl rfl (any_of HT_.out (by kernel_rfl)) (fun _ _ _ h => h) (Or.inl ⟨by rfl, ?_⟩) ?_ ?_
         rotate_left
         ·intro w'
          go_simp
          with_reducible rfl
         rotate_left
         ·simp only [Act.put, List.setIfInBounds_toArray, List.set_cons_zero, List.set_cons_succ, i64_w, i32_w]
          rfl
         refine pure_ (i := 13) (N := some 24) (v := ?_) (a' := ?_) #[true, true, false, false, true, true, false, false, true, true, false, false, true, true, false, false, false, false, false] rfl rfl (any_of HT_.out (by kernel_rfl)) (fun _ _ _ h => h) (Or.inl ⟨by rfl, ?_⟩) ?_ ?_
         rotate_left
         ·intro w'
          go_simp
          with_reducible rfl
         rotate_left
         ·simp only [Act.put, List.setIfInBounds_toArray, List.set_cons_zero, List.set_cons_succ, i64_w, i32_w]
          rfl
         refine take_ (i := 2) (N := some 13) (v := ?_) (a' := ?_) #[true, true, true, false, true, true, false, false, true, true, false, false, true, true, false, false, false, false, false] rfl rfl (take_ofW HT_.out HW_.out (by kernel_rfl)) (fun _ _ _ h => h) (Or.inl ⟨by rfl, ?_⟩) hHeld ?_ ?_
         rotate_left
         ·intro w' s0
          go_simp
          with_reducible rfl
         rotate_left
         ·simp only [Act.put, List.setIfInBounds_toArray, List.set_cons_zero, List.set_cons_succ, i64_w, i32_w]
          rfl
         refine pure_ (i := 3) (N := some 14) (v := ?_) (a' := ?_) #[true, true, true, true, true, true, false, false, true, true, false, false, true, true, false, false, false, false, false] rfl rfl (any_of HT_.out (by kernel_rfl)) (fun _ _ _ h => h) (Or.inl ⟨by rfl, ?_⟩) ?_ ?_
         rotate_left
         ·intro w'
          go_simp
          with_reducible rfl
         rotate_left
         ·simp only [Act.put, List.setIfInBounds_toArray, List.set_cons_zero, List.set_cons_succ, i64_w, i32_w]
          rfl
         refine join_ (σ := Nat) 1 #[true, true, true, true, true, true, true, true, true, true, true, true, true, true, true, true, true, true, false] (fun s_ => [(17, .int .u64 t203), (21, .int .u64 t205), (25, .int .u64 t207), (4, .pointer (some ⟨s_, 0, none⟩)), (18, .int .i64 (wrap64 (t203))), (22, .int .i64 (wrap64 (t205))), (26, .int .i64 (wrap64 (t207))), (27, .agg #[.int .i64 (wrap64 (rd l0 0)), .int .i64 (wrap64 (t203)), .int .i64 (wrap64 (t205)), .int .i64 (wrap64 (t207)), .int .i64 0, .int .i64 0, .int .i64 0, .int .i64 0, .int .i64 0, .int .i64 0, .int .i64 0, .int .i64 0])]) (fun s_ w' => (w'.cell? ad201 = some (.int .u8 (rd l0 0))) ∧ (w'.heap[gb200]? = some (.cells #[.int .i64 0, .int .i64 0, .int .i64 0, .int .i64 0, .int .i64 0, .int .i64 0, .int .i64 0, .int .i64 0, .int .i64 0, .int .i64 0, .int .i64 0, .int .i64 0] 24 (0, 0))) ∧ (w'.heap[s_]? = some (.cells #[.int .i64 0, .int .i64 0, .int .i64 0, .int .i64 0, .int .i64 0, .int .i64 0, .int .i64 0, .int .i64 0, .int .i64 0, .int .i64 0, .int .i64 0, .int .i64 0] 24 (0, 0))) ∧ (w.heap.size ≤ s_) ∧ (w.heap.size ≤ s_) ∧ (gb200 ≠ s_) ∧ (s_ ≠ gb200) ∧ (Below w.heap.size w w')) ?_ ?_
         rotate_left
         ·intro hCont
          refine two_ (i := 6) (j := 17) (Ni := some 17) (Nj := some 4) #[true, true, true, true, true, true, true, false, true, true, false, false, true, true, false, false, false, false, false] #[true, true, true, true, true, true, false, false, true, true, false, false, true, true, false, false, false, true, false] rfl rfl rfl rfl (two_of HT_.out (by kernel_rfl)) (by decide) (by decide) (fun K hK => ?_) (fun K hK => ?_)
          ·skip
           refine goes_ Try.func30 (by kernel_rfl) rfl #[.slice A15 ((l0.take 4).drop 2).length (c0 - 2)] (by rfl) rfl rfl (by (try simp only [List.map_toArray, List.map_cons, List.map_nil]); first | done | (rw [show ((l0.take 4).drop 2).length = (4 - 2) from (by rw [List.length_drop, List.length_take]; have h_ : (4 : Int) ≤ (l0.length : Int) := of_decide_eq_true (by first | (with_reducible assumption) | assumption); omega)] <;> rfl) | rfl | (simp only [List.length_drop, List.length_take]; rfl)) ?_
           with_reducible refine (num_Get.calls k _ _ ((l0.take 4).drop 2) t203 _ ?side1 ?side2 A6.out).mono ?_
           (case side1 => repeat (first | exact (Kd.C_below HR202.out HB.out) | (with_reducible refine Kd.C_alloc ?_ _) | (with_reducible refine Kd.C_drewN ?_ _) | (with_reducible refine Kd.C_drew ?_)))
           (case side2 => exact HC202.out)
           rintro e w18 ⟨rfl, hb⟩
           refine ⟨_, rfl, ?_⟩
           have n0_ := Aside0.mk (blk_below (g := gb200) (o := .cells #[.int .i64 0, .int .i64 0, .int .i64 0, .int .i64 0, .int .i64 0, .int .i64 0, .int .i64 0, .int .i64 0, .int .i64 0, .int .i64 0, .int .i64 0, .int .i64 0] 24 (0, 0)) (by (with_reducible repeat (first | refine blk_drewN ?_ _ | refine blk_drew ?_ | refine blk_alloc ?_ _)); exact BK200.out) hb)
           have n1_ := Aside0.mk (below_step (by repeat (first | (with_reducible first | exact HB.out | apply below_alloc | apply pw_below_drewN | apply below_drew1 | refine below_set ?_ GE200.out) | exact HB.out)) hb)
           clear BK200
           clear HB
           have BK200 := n0_
           have HB := n1_
           clear n0_ n1_
           (try clear hb)
           (try clear hb2)
           (try clear hk)
           (try clear hi)
           refine hK.out _ _ (((HB.out.cell (World.block_lt_of_cell? w _ hw201_0)).trans hw201_0)) (fun hHeld => ?_)
           clear hK K
           refine norm_ (a' := ?_) ?_ ?_
           rotate_left
           ·show Act.put _ (some 17) _ = _
            simp only [Act.put, List.setIfInBounds_toArray, List.set_cons_zero, List.set_cons_succ, i64_w, i32_w]
            rfl
           refine pure_ (i := 7) (N := some 18) (v := ?_) (a' := ?_) #[true, true, true, true, true, true, true, true, true, true, false, false, true, true, false, false, false, false, false] rfl rfl (any_of HT_.out (by kernel_rfl)) (fun _ _ _ h => h) (Or.inl ⟨by rfl, ?_⟩) ?_ ?_
           rotate_left
           ·intro w'
            go_simp
            with_reducible rfl
           rotate_left
           ·simp only [Act.put, List.setIfInBounds_toArray, List.set_cons_zero, List.set_cons_succ, i64_w, i32_w]
            rfl
           refine two_ (i := 10) (j := 17) (Ni := some 21) (Nj := some 4) #[true, true, true, true, true, true, true, true, true, true, true, false, true, true, false, false, false, false, false] #[true, true, true, true, true, true, true, true, true, true, false, false, true, true, false, false, false, true, false] rfl rfl rfl rfl (two_of HT_.out (by kernel_rfl)) (by decide) (by decide) (fun K hK => ?_) (fun K hK => ?_)
           ·skip
            refine goes_ Try.func30 (by kernel_rfl) rfl #[.slice A16 ((l0.take 8).drop 4).length (c0 - 4)] (by rfl) rfl rfl (by (try simp only [List.map_toArray, List.map_cons, List.map_nil]); first | done | (rw [show ((l0.take 8).drop 4).length = (8 - 4) from (by rw [List.length_drop, List.length_take]; have h_ : (8 : Int) ≤ (l0.length : Int) := of_decide_eq_true (by first | (with_reducible assumption) | assumption); omega)] <;> rfl) | rfl | (simp only [List.length_drop, List.length_take]; rfl)) ?_
            with_reducible refine (num_Get.calls k _ _ ((l0.take 8).drop 4) t205 _ ?side1 ?side2 A9.out).mono ?_
            (case side1 => repeat (first | exact (Kd.C_below HR204.out HB.out) | (with_reducible refine Kd.C_alloc ?_ _) | (with_reducible refine Kd.C_drewN ?_ _) | (with_reducible refine Kd.C_drew ?_)))
            (case side2 => exact HC204.out)
            rintro e w19 ⟨rfl, hb⟩
            refine ⟨_, rfl, ?_⟩
            have n0_ := Aside0.mk (blk_below (g := gb200) (o := .cells #[.int .i64 0, .int .i64 0, .int .i64 0, .int .i64 0, .int .i64 0, .int .i64 0, .int .i64 0, .int .i64 0, .int .i64 0, .int .i64 0, .int .i64 0, .int .i64 0] 24 (0, 0)) (by (with_reducible repeat (first | refine blk_drewN ?_ _ | refine blk_drew ?_ | refine blk_alloc ?_ _)); exact BK200.out) hb)
            have n1_ := Aside0.mk (below_step (by repeat (first | (with_reducible first | exact HB.out | apply below_alloc | apply pw_below_drewN | apply below_drew1 | refine below_set ?_ GE200.out) | exact HB.out)) hb)
            clear BK200
            clear HB
            have BK200 := n0_
            have HB := n1_
            clear n0_ n1_
            (try clear hb)
            (try clear hb2)
            (try clear hk)
            (try clear hi)
            refine hK.out _ _ (((HB.out.cell (World.block_lt_of_cell? w _ hw201_0)).trans hw201_0)) (fun hHeld => ?_)
            clear hK K
            refine norm_ (a' := ?_) ?_ ?_
            rotate_left
            ·show Act.put _ (some 21) _ = _
             simp only [Act.put, List.setIfInBounds_toArray, List.set_cons_zero, List.set_cons_succ, i64_w, i32_w]
             rfl
            refine pure_ (i := 11) (N := some 22) (v := ?_) (a' := ?_) #[true, true, true, true, true, true, true, true, true, true, true, true, true, true, false, false, false, false, false] rfl rfl (any_of HT_.out (by kernel_rfl)) (fun _ _ _ h => h) (Or.inl ⟨by rfl, ?_⟩) ?_ ?_
            rotate_left
            ·intro w'
             go_simp
             with_reducible rfl
            rotate_left
            ·simp only [Act.put, List.setIfInBounds_toArray, List.set_cons_zero, List.set_cons_succ, i64_w, i32_w]
             rfl
            refine two_ (i := 14) (j := 17) (Ni := some 25) (Nj := some 4) #[true, true, true, true, true, true, true, true, true, true, true, true, true, true, true, false, false, false, false] #[true, true, true, true, true, true, true, true, true, true, true, true, true, true, false, false, false, true, false] rfl rfl rfl rfl (two_of HT_.out (by kernel_rfl)) (by decide) (by decide) (fun K hK => ?_) (fun K hK => ?_)
            ·skip
             refine goes_ Try.func30 (by kernel_rfl) rfl #[.slice A17 ((l0.take 16).drop 8).length (c0 - 8)] (by rfl) rfl rfl (by (try simp only [List.map_toArray, List.map_cons, List.map_nil]); first | done | (rw [show ((l0.take 16).drop 8).length = (16 - 8) from (by rw [List.length_drop, List.length_take]; have h_ : (16 : Int) ≤ (l0.length : Int) := of_decide_eq_true (by first | (with_reducible assumption) | assumption); omega)] <;> rfl) | rfl | (simp only [List.length_drop, List.length_take]; rfl)) ?_
             with_reducible refine (num_Get.calls k _ _ ((l0.take 16).drop 8) t207 _ ?side1 ?side2 A12.out).mono ?_
             (case side1 => repeat (first | exact (Kd.C_below HR206.out HB.out) | (with_reducible refine Kd.C_alloc ?_ _) | (with_reducible refine Kd.C_drewN ?_ _) | (with_reducible refine Kd.C_drew ?_)))
             (case side2 => exact HC206.out)
             rintro e w20 ⟨rfl, hb⟩
             refine ⟨_, rfl, ?_⟩
             have n0_ := Aside0.mk (blk_below (g := gb200) (o := .cells #[.int .i64 0, .int .i64 0, .int .i64 0, .int .i64 0, .int .i64 0, .int .i64 0, .int .i64 0, .int .i64 0, .int .i64 0, .int .i64 0, .int .i64 0, .int .i64 0] 24 (0, 0)) (by (with_reducible repeat (first | refine blk_drewN ?_ _ | refine blk_drew ?_ | refine blk_alloc ?_ _)); exact BK200.out) hb)
             have n1_ := Aside0.mk (below_step (by repeat (first | (with_reducible first | exact HB.out | apply below_alloc | apply pw_below_drewN | apply below_drew1 | refine below_set ?_ GE200.out) | exact HB.out)) hb)
             clear BK200
             clear HB
             have BK200 := n0_
             have HB := n1_
             clear n0_ n1_
             (try clear hb)
             (try clear hb2)
             (try clear hk)
             (try clear hi)
             refine hK.out _ _ (((HB.out.cell (World.block_lt_of_cell? w _ hw201_0)).trans hw201_0)) (fun hHeld => ?_)
             clear hK K
             refine norm_ (a' := ?_) ?_ ?_
             rotate_left
             ·show Act.put _ (some 25) _ = _
              simp only [Act.put, List.setIfInBounds_toArray, List.set_cons_zero, List.set_cons_succ, i64_w, i32_w]
              rfl
             refine pure_ (i := 15) (N := some 26) (v := ?_) (a' := ?_) #[true, true, true, true, true, true, true, true, true, true, true, true, true, true, true, true, false, false, false] rfl rfl (any_of HT_.out (by kernel_rfl)) (fun _ _ _ h => h) (Or.inl ⟨by rfl, ?_⟩) ?_ ?_
             rotate_left
             ·intro w'
              go_simp
              with_reducible rfl
             rotate_left
             ·simp only [Act.put, List.setIfInBounds_toArray, List.set_cons_zero, List.set_cons_succ, i64_w, i32_w]
              rfl
             refine pure_ (i := 16) (N := some 27) (v := ?_) (a' := ?_) #[true, true, true, true, true, true, true, true, true, true, true, true, true, true, true, true, true, false, false] rfl rfl (any_of HT_.out (by kernel_rfl)) (fun _ _ _ h => h) (Or.inl ⟨by rfl, ?_⟩) ?_ ?_
             rotate_left
             ·intro w'
              go_simp
              with_reducible rfl
             rotate_left
             ·simp only [Act.put, List.setIfInBounds_toArray, List.set_cons_zero, List.set_cons_succ, i64_w, i32_w]
              rfl
             refine one_ (i := 17) (N := some 4) #[true, true, true, true, true, true, true, true, true, true, true, true, true, true, true, true, true, true, false] rfl rfl (one_of HT_.out (by kernel_rfl)) (by decide) (fun K hK => ?_)
             refine box_step ?hg (N := 4) ?hd (cs := #[.int .i64 0, .int .i64 0, .int .i64 0, .int .i64 0, .int .i64 0, .int .i64 0, .int .i64 0, .int .i64 0, .int .i64 0, .int .i64 0, .int .i64 0, .int .i64 0]) (t := 24) ?hr ?_; (case hd => rfl); (case hg => rfl); (case hr => first | (go_simp; done) | (go_simp; rfl))
             intro gb208 hg w21 hbox hb
             have n0_ := Aside0.mk (blk_below (g := gb200) (o := .cells #[.int .i64 0, .int .i64 0, .int .i64 0, .int .i64 0, .int .i64 0, .int .i64 0, .int .i64 0, .int .i64 0, .int .i64 0, .int .i64 0, .int .i64 0, .int .i64 0] 24 (0, 0)) (by (with_reducible repeat (first | refine blk_drewN ?_ _ | refine blk_drew ?_ | refine blk_alloc ?_ _)); exact BK200.out) hb)
             have n1_ := Aside0.mk (below_step (by repeat (first | (with_reducible first | exact HB.out | apply below_alloc | apply pw_below_drewN | apply below_drew1 | refine below_set ?_ GE200.out) | exact HB.out)) hb)
             have n2_ := Aside0.mk (hbox)
             have n3_ := Aside0.mk ((by rw [hg]; exact (below_size (by repeat (first | (with_reducible first | exact HB.out | apply below_alloc | apply pw_below_drewN | apply below_drew1 | refine below_set ?_ GE200.out) | exact HB.out))) : w.heap.size ≤ gb208))
             have n4_ := Aside0.mk ((by rw [hg]; exact (below_size (by repeat (first | (with_reducible first | exact HB.out | apply below_alloc | apply pw_below_drewN | apply below_drew1 | refine below_set ?_ GE200.out) | exact HB.out))) : w.heap.size ≤ gb208))
             have n5_ := Aside0.mk ((by rw [hg]; exact Nat.ne_of_lt (blk_lt (g := gb200) (o := .cells #[.int .i64 0, .int .i64 0, .int .i64 0, .int .i64 0, .int .i64 0, .int .i64 0, .int .i64 0, .int .i64 0, .int .i64 0, .int .i64 0, .int .i64 0, .int .i64 0] 24 (0, 0)) (by (with_reducible repeat (first | refine blk_drewN ?_ _ | refine blk_drew ?_ | refine blk_alloc ?_ _)); exact BK200.out)) : gb200 ≠ gb208))
             have n6_ := Aside0.mk ((by rw [hg]; exact Nat.ne_of_gt (blk_lt (g := gb200) (o := .cells #[.int .i64 0, .int .i64 0, .int .i64 0, .int .i64 0, .int .i64 0, .int .i64 0, .int .i64 0, .int .i64 0, .int .i64 0, .int .i64 0, .int .i64 0, .int .i64 0] 24 (0, 0)) (by (with_reducible repeat (first | refine blk_drewN ?_ _ | refine blk_drew ?_ | refine blk_alloc ?_ _)); exact BK200.out)) : gb208 ≠ gb200))
             clear BK200
             clear HB
             have BK200 := n0_
             have HB := n1_
             have BK208 := n2_
             have GW208 := n3_
             have GE208 := n4_
             have NB200_208 := n5_
             have NB208_200 := n6_
             clear n0_ n1_ n2_ n3_ n4_ n5_ n6_
             clear hb hbox hg
             refine hK.out _ _ (((HB.out.cell (World.block_lt_of_cell? w _ hw201_0)).trans hw201_0)) (fun hHeld => ?_)
             clear hK K
             refine norm_ (a' := ?_) ?_ ?_
             rotate_left
             ·show Act.put _ (some 4) _ = _
              simp only [Act.put, List.setIfInBounds_toArray, List.set_cons_zero, List.set_cons_succ, i64_w, i32_w]
              rfl
             exact norm_ (by simp only [putAll, Act.put, List.setIfInBounds_toArray, List.set_cons_zero, List.set_cons_succ]) (hCont (gb208) _ ⟨hHeld, (by (with_reducible repeat (first | refine blk_drewN ?_ _ | refine blk_drew ?_ | refine blk_alloc ?_ _)); exact BK200.out), (by (with_reducible repeat (first | refine blk_drewN ?_ _ | refine blk_drew ?_ | refine blk_alloc ?_ _)); exact BK208.out), GW208.out, GE208.out, NB200_208.out, NB208_200.out, (by repeat (first | (with_reducible first | exact HB.out | apply below_alloc | apply pw_below_drewN | apply below_drew1 | refine below_set ?_ GE200.out | refine below_set ?_ GE208.out) | exact HB.out))⟩)
            ·skip
             refine box_step ?hg (N := 4) ?hd (cs := #[.int .i64 0, .int .i64 0, .int .i64 0, .int .i64 0, .int .i64 0, .int .i64 0, .int .i64 0, .int .i64 0, .int .i64 0, .int .i64 0, .int .i64 0, .int .i64 0]) (t := 24) ?hr ?_; (case hd => rfl); (case hg => rfl); (case hr => first | (go_simp; done) | (go_simp; rfl))
             intro gb208 hg w20 hbox hb
             have n0_ := Aside0.mk (blk_below (g := gb200) (o := .cells #[.int .i64 0, .int .i64 0, .int .i64 0, .int .i64 0, .int .i64 0, .int .i64 0, .int .i64 0, .int .i64 0, .int .i64 0, .int .i64 0, .int .i64 0, .int .i64 0] 24 (0, 0)) (by (with_reducible repeat (first | refine blk_drewN ?_ _ | refine blk_drew ?_ | refine blk_alloc ?_ _)); exact BK200.out) hb)
             have n1_ := Aside0.mk (below_step (by repeat (first | (with_reducible first | exact HB.out | apply below_alloc | apply pw_below_drewN | apply below_drew1 | refine below_set ?_ GE200.out) | exact HB.out)) hb)
             have n2_ := Aside0.mk (hbox)
             have n3_ := Aside0.mk ((by rw [hg]; exact (below_size (by repeat (first | (with_reducible first | exact HB.out | apply below_alloc | apply pw_below_drewN | apply below_drew1 | refine below_set ?_ GE200.out) | exact HB.out))) : w.heap.size ≤ gb208))
             have n4_ := Aside0.mk ((by rw [hg]; exact (below_size (by repeat (first | (with_reducible first | exact HB.out | apply below_alloc | apply pw_below_drewN | apply below_drew1 | refine below_set ?_ GE200.out) | exact HB.out))) : w.heap.size ≤ gb208))
             have n5_ := Aside0.mk ((by rw [hg]; exact Nat.ne_of_lt (blk_lt (g := gb200) (o := .cells #[.int .i64 0, .int .i64 0, .int .i64 0, .int .i64 0, .int .i64 0, .int .i64 0, .int .i64 0, .int .i64 0, .int .i64 0, .int .i64 0, .int .i64 0, .int .i64 0] 24 (0, 0)) (by (with_reducible repeat (first | refine blk_drewN ?_ _ | refine blk_drew ?_ | refine blk_alloc ?_ _)); exact BK200.out)) : gb200 ≠ gb208))
             have n6_ := Aside0.mk ((by rw [hg]; exact Nat.ne_of_gt (blk_lt (g := gb200) (o := .cells #[.int .i64 0, .int .i64 0, .int .i64 0, .int .i64 0, .int .i64 0, .int .i64 0, .int .i64 0, .int .i64 0, .int .i64 0, .int .i64 0, .int .i64 0, .int .i64 0] 24 (0, 0)) (by (with_reducible repeat (first | refine blk_drewN ?_ _ | refine blk_drew ?_ | refine blk_alloc ?_ _)); exact BK200.out)) : gb208 ≠ gb200))
             clear BK200
             clear HB
             have BK200 := n0_
             have HB := n1_
             have BK208 := n2_
             have GW208 := n3_
             have GE208 := n4_
             have NB200_208 := n5_
             have NB208_200 := n6_
             clear n0_ n1_ n2_ n3_ n4_ n5_ n6_
             clear hb hbox hg
             refine hK.out _ _ (((HB.out.cell (World.block_lt_of_cell? w _ hw201_0)).trans hw201_0)) (fun hHeld => ?_)
             clear hK K
             refine norm_ (a' := ?_) ?_ ?_
             rotate_left
             ·show Act.put _ (some 4) _ = _
              simp only [Act.put, List.setIfInBounds_toArray, List.set_cons_zero, List.set_cons_succ, i64_w, i32_w]
              rfl
             refine one_ (i := 14) (N := some 25) #[true, true, true, true, true, true, true, true, true, true, true, true, true, true, true, false, false, true, false] rfl rfl (one_of HT_.out (by kernel_rfl)) (by decide) (fun K hK => ?_)
             refine goes_ Try.func30 (by kernel_rfl) rfl #[.slice A17 ((l0.take 16).drop 8).length (c0 - 8)] (by rfl) rfl rfl (by (try simp only [List.map_toArray, List.map_cons, List.map_nil]); first | done | (rw [show ((l0.take 16).drop 8).length = (16 - 8) from (by rw [List.length_drop, List.length_take]; have h_ : (16 : Int) ≤ (l0.length : Int) := of_decide_eq_true (by first | (with_reducible assumption) | assumption); omega)] <;> rfl) | rfl | (simp only [List.length_drop, List.length_take]; rfl)) ?_
             with_reducible refine (num_Get.calls k _ _ ((l0.take 16).drop 8) t207 _ ?side1 ?side2 A12.out).mono ?_
             (case side1 => repeat (first | exact (Kd.C_below HR206.out HB.out) | (with_reducible refine Kd.C_alloc ?_ _) | (with_reducible refine Kd.C_drewN ?_ _) | (with_reducible refine Kd.C_drew ?_)))
             (case side2 => exact HC206.out)
             rintro e w21 ⟨rfl, hb⟩
             refine ⟨_, rfl, ?_⟩
             have n0_ := Aside0.mk (blk_below (g := gb200) (o := .cells #[.int .i64 0, .int .i64 0, .int .i64 0, .int .i64 0, .int .i64 0, .int .i64 0, .int .i64 0, .int .i64 0, .int .i64 0, .int .i64 0, .int .i64 0, .int .i64 0] 24 (0, 0)) (by (with_reducible repeat (first | refine blk_drewN ?_ _ | refine blk_drew ?_ | refine blk_alloc ?_ _)); exact BK200.out) hb)
             have n1_ := Aside0.mk (blk_below (g := gb208) (o := .cells #[.int .i64 0, .int .i64 0, .int .i64 0, .int .i64 0, .int .i64 0, .int .i64 0, .int .i64 0, .int .i64 0, .int .i64 0, .int .i64 0, .int .i64 0, .int .i64 0] 24 (0, 0)) (by (with_reducible repeat (first | refine blk_drewN ?_ _ | refine blk_drew ?_ | refine blk_alloc ?_ _)); exact BK208.out) hb)
             have n2_ := Aside0.mk (below_step (by repeat (first | (with_reducible first | exact HB.out | apply below_alloc | apply pw_below_drewN | apply below_drew1 | refine below_set ?_ GE200.out | refine below_set ?_ GE208.out) | exact HB.out)) hb)
             clear BK200
             clear BK208
             clear HB
             have BK200 := n0_
             have BK208 := n1_
             have HB := n2_
             clear n0_ n1_ n2_
             (try clear hb)
             (try clear hb2)
             (try clear hk)
             (try clear hi)
             refine hK.out _ _ (((HB.out.cell (World.block_lt_of_cell? w _ hw201_0)).trans hw201_0)) (fun hHeld => ?_)
             clear hK K
             refine norm_ (a' := ?_) ?_ ?_
             rotate_left
             ·show Act.put _ (some 25) _ = _
              simp only [Act.put, List.setIfInBounds_toArray, List.set_cons_zero, List.set_cons_succ, i64_w, i32_w]
              rfl
             refine pure_ (i := 15) (N := some 26) (v := ?_) (a' := ?_) #[true, true, true, true, true, true, true, true, true, true, true, true, true, true, true, true, false, true, false] rfl rfl (any_of HT_.out (by kernel_rfl)) (fun _ _ _ h => h) (Or.inl ⟨by rfl, ?_⟩) ?_ ?_
             rotate_left
             ·intro w'
              go_simp
              with_reducible rfl
             rotate_left
             ·simp only [Act.put, List.setIfInBounds_toArray, List.set_cons_zero, List.set_cons_succ, i64_w, i32_w]
              rfl
             refine pure_ (i := 16) (N := some 27) (v := ?_) (a' := ?_) #[true, true, true, true, true, true, true, true, true, true, true, true, true, true, true, true, true, true, false] rfl rfl (any_of HT_.out (by kernel_rfl)) (fun _ _ _ h => h) (Or.inl ⟨by rfl, ?_⟩) ?_ ?_
             rotate_left
             ·intro w'
              go_simp
              with_reducible rfl
             rotate_left
             ·simp only [Act.put, List.setIfInBounds_toArray, List.set_cons_zero, List.set_cons_succ, i64_w, i32_w]
              rfl
             exact norm_ (by simp only [putAll, Act.put, List.setIfInBounds_toArray, List.set_cons_zero, List.set_cons_succ]) (hCont (gb208) _ ⟨hHeld, (by (with_reducible repeat (first | refine blk_drewN ?_ _ | refine blk_drew ?_ | refine blk_alloc ?_ _)); exact BK200.out), (by (with_reducible repeat (first | refine blk_drewN ?_ _ | refine blk_drew ?_ | refine blk_alloc ?_ _)); exact BK208.out), GW208.out, GE208.out, NB200_208.out, NB208_200.out, (by repeat (first | (with_reducible first | exact HB.out | apply below_alloc | apply pw_below_drewN | apply below_drew1 | refine below_set ?_ GE200.out | refine below_set ?_ GE208.out) | exact HB.out))⟩)
           ·skip
            refine box_step ?hg (N := 4) ?hd (cs := #[.int .i64 0, .int .i64 0, .int .i64 0, .int .i64 0, .int .i64 0, .int .i64 0, .int .i64 0, .int .i64 0, .int .i64 0, .int .i64 0, .int .i64 0, .int .i64 0]) (t := 24) ?hr ?_; (case hd => rfl); (case hg => rfl); (case hr => first | (go_simp; done) | (go_simp; rfl))
            intro gb208 hg w19 hbox hb
            have n0_ := Aside0.mk (blk_below (g := gb200) (o := .cells #[.int .i64 0, .int .i64 0, .int .i64 0, .int .i64 0, .int .i64 0, .int .i64 0, .int .i64 0, .int .i64 0, .int .i64 0, .int .i64 0, .int .i64 0, .int .i64 0] 24 (0, 0)) (by (with_reducible repeat (first | refine blk_drewN ?_ _ | refine blk_drew ?_ | refine blk_alloc ?_ _)); exact BK200.out) hb)
            have n1_ := Aside0.mk (below_step (by repeat (first | (with_reducible first | exact HB.out | apply below_alloc | apply pw_below_drewN | apply below_drew1 | refine below_set ?_ GE200.out) | exact HB.out)) hb)
            have n2_ := Aside0.mk (hbox)
            have n3_ := Aside0.mk ((by rw [hg]; exact (below_size (by repeat (first | (with_reducible first | exact HB.out | apply below_alloc | apply pw_below_drewN | apply below_drew1 | refine below_set ?_ GE200.out) | exact HB.out))) : w.heap.size ≤ gb208))
            have n4_ := Aside0.mk ((by rw [hg]; exact (below_size (by repeat (first | (with_reducible first | exact HB.out | apply below_alloc | apply pw_below_drewN | apply below_drew1 | refine below_set ?_ GE200.out) | exact HB.out))) : w.heap.size ≤ gb208))
            have n5_ := Aside0.mk ((by rw [hg]; exact Nat.ne_of_lt (blk_lt (g := gb200) (o := .cells #[.int .i64 0, .int .i64 0, .int .i64 0, .int .i64 0, .int .i64 0, .int .i64 0, .int .i64 0, .int .i64 0, .int .i64 0, .int .i64 0, .int .i64 0, .int .i64 0] 24 (0, 0)) (by (with_reducible repeat (first | refine blk_drewN ?_ _ | refine blk_drew ?_ | refine blk_alloc ?_ _)); exact BK200.out)) : gb200 ≠ gb208))
            have n6_ := Aside0.mk ((by rw [hg]; exact Nat.ne_of_gt (blk_lt (g := gb200) (o := .cells #[.int .i64 0, .int .i64 0, .int .i64 0, .int .i64 0, .int .i64 0, .int .i64 0, .int .i64 0, .int .i64 0, .int .i64 0, .int .i64 0, .int .i64 0, .int .i64 0] 24 (0, 0)) (by (with_reducible repeat (first | refine blk_drewN ?_ _ | refine blk_drew ?_ | refine blk_alloc ?_ _)); exact BK200.out)) : gb208 ≠ gb200))
            clear BK200
            clear HB
            have BK200 := n0_
            have HB := n1_
            have BK208 := n2_
            have GW208 := n3_
            have GE208 := n4_
            have NB200_208 := n5_
            have NB208_200 := n6_
            clear n0_ n1_ n2_ n3_ n4_ n5_ n6_
            clear hb hbox hg
            refine hK.out _ _ (((HB.out.cell (World.block_lt_of_cell? w _ hw201_0)).trans hw201_0)) (fun hHeld => ?_)
            clear hK K
            refine norm_ (a' := ?_) ?_ ?_
            rotate_left
            ·show Act.put _ (some 4) _ = _
             simp only [Act.put, List.setIfInBounds_toArray, List.set_cons_zero, List.set_cons_succ, i64_w, i32_w]
             rfl
            refine one_ (i := 10) (N := some 21) #[true, true, true, true, true, true, true, true, true, true, true, false, true, true, false, false, false, true, false] rfl rfl (one_of HT_.out (by kernel_rfl)) (by decide) (fun K hK => ?_)
            refine goes_ Try.func30 (by kernel_rfl) rfl #[.slice A16 ((l0.take 8).drop 4).length (c0 - 4)] (by rfl) rfl rfl (by (try simp only [List.map_toArray, List.map_cons, List.map_nil]); first | done | (rw [show ((l0.take 8).drop 4).length = (8 - 4) from (by rw [List.length_drop, List.length_take]; have h_ : (8 : Int) ≤ (l0.length : Int) := of_decide_eq_true (by first | (with_reducible assumption) | assumption); omega)] <;> rfl) | rfl | (simp only [List.length_drop, List.length_take]; rfl)) ?_
            with_reducible refine (num_Get.calls k _ _ ((l0.take 8).drop 4) t205 _ ?side1 ?side2 A9.out).mono ?_
            (case side1 => repeat (first | exact (Kd.C_below HR204.out HB.out) | (with_reducible refine Kd.C_alloc ?_ _) | (with_reducible refine Kd.C_drewN ?_ _) | (with_reducible refine Kd.C_drew ?_)))
            (case side2 => exact HC204.out)
            rintro e w20 ⟨rfl, hb⟩
            refine ⟨_, rfl, ?_⟩
            have n0_ := Aside0.mk (blk_below (g := gb200) (o := .cells #[.int .i64 0, .int .i64 0, .int .i64 0, .int .i64 0, .int .i64 0, .int .i64 0, .int .i64 0, .int .i64 0, .int .i64 0, .int .i64 0, .int .i64 0, .int .i64 0] 24 (0, 0)) (by (with_reducible repeat (first | refine blk_drewN ?_ _ | refine blk_drew ?_ | refine blk_alloc ?_ _)); exact BK200.out) hb)
            have n1_ := Aside0.mk (blk_below (g := gb208) (o := .cells #[.int .i64 0, .int .i64 0, .int .i64 0, .int .i64 0, .int .i64 0, .int .i64 0, .int .i64 0, .int .i64 0, .int .i64 0, .int .i64 0, .int .i64 0, .int .i64 0] 24 (0, 0)) (by (with_reducible repeat (first | refine blk_drewN ?_ _ | refine blk_drew ?_ | refine blk_alloc ?_ _)); exact BK208.out) hb)
            have n2_ := Aside0.mk (below_step (by repeat (first | (with_reducible first | exact HB.out | apply below_alloc | apply pw_below_drewN | apply below_drew1 | refine below_set ?_ GE200.out | refine below_set ?_ GE208.out) | exact HB.out)) hb)
            clear BK200
            clear BK208
            clear HB
            have BK200 := n0_
            have BK208 := n1_
            have HB := n2_
            clear n0_ n1_ n2_
            (try clear hb)
            (try clear hb2)
            (try clear hk)
            (try clear hi)
            refine hK.out _ _ (((HB.out.cell (World.block_lt_of_cell? w _ hw201_0)).trans hw201_0)) (fun hHeld => ?_)
            clear hK K
            refine norm_ (a' := ?_) ?_ ?_
            rotate_left
            ·show Act.put _ (some 21) _ = _
             simp only [Act.put, List.setIfInBounds_toArray, List.set_cons_zero, List.set_cons_succ, i64_w, i32_w]
             rfl
            refine pure_ (i := 11) (N := some 22) (v := ?_) (a' := ?_) #[true, true, true, true, true, true, true, true, true, true, true, true, true, true, false, false, false, true, false] rfl rfl (any_of HT_.out (by kernel_rfl)) (fun _ _ _ h => h) (Or.inl ⟨by rfl, ?_⟩) ?_ ?_
            rotate_left
            ·intro w'
             go_simp
             with_reducible rfl
            rotate_left
            ·simp only [Act.put, List.setIfInBounds_toArray, List.set_cons_zero, List.set_cons_succ, i64_w, i32_w]
             rfl
            refine one_ (i := 14) (N := some 25) #[true, true, true, true, true, true, true, true, true, true, true, true, true, true, true, false, false, true, false] rfl rfl (one_of HT_.out (by kernel_rfl)) (by decide) (fun K hK => ?_)
            refine goes_ Try.func30 (by kernel_rfl) rfl #[.slice A17 ((l0.take 16).drop 8).length (c0 - 8)] (by rfl) rfl rfl (by (try simp only [List.map_toArray, List.map_cons, List.map_nil]); first | done | (rw [show ((l0.take 16).drop 8).length = (16 - 8) from (by rw [List.length_drop, List.length_take]; have h_ : (16 : Int) ≤ (l0.length : Int) := of_decide_eq_true (by first | (with_reducible assumption) | assumption); omega)] <;> rfl) | rfl | (simp only [List.length_drop, List.length_take]; rfl)) ?_
            with_reducible refine (num_Get.calls k _ _ ((l0.take 16).drop 8) t207 _ ?side1 ?side2 A12.out).mono ?_
            (case side1 => repeat (first | exact (Kd.C_below HR206.out HB.out) | (with_reducible refine Kd.C_alloc ?_ _) | (with_reducible refine Kd.C_drewN ?_ _) | (with_reducible refine Kd.C_drew ?_)))
            (case side2 => exact HC206.out)
            rintro e w21 ⟨rfl, hb⟩
            refine ⟨_, rfl, ?_⟩
            have n0_ := Aside0.mk (blk_below (g := gb200) (o := .cells #[.int .i64 0, .int .i64 0, .int .i64 0, .int .i64 0, .int .i64 0, .int .i64 0, .int .i64 0, .int .i64 0, .int .i64 0, .int .i64 0, .int .i64 0, .int .i64 0] 24 (0, 0)) (by (with_reducible repeat (first | refine blk_drewN ?_ _ | refine blk_drew ?_ | refine blk_alloc ?_ _)); exact BK200.out) hb)
            have n1_ := Aside0.mk (blk_below (g := gb208) (o := .cells #[.int .i64 0, .int .i64 0, .int .i64 0, .int .i64 0, .int .i64 0, .int .i64 0, .int .i64 0, .int .i64 0, .int .i64 0, .int .i64 0, .int .i64 0, .int .i64 0] 24 (0, 0)) (by (with_reducible repeat (first | refine blk_drewN ?_ _ | refine blk_drew ?_ | refine blk_alloc ?_ _)); exact BK208.out) hb)
            have n2_ := Aside0.mk (below_step (by repeat (first | (with_reducible first | exact HB.out | apply below_alloc | apply pw_below_drewN | apply below_drew1 | refine below_set ?_ GE200.out | refine below_set ?_ GE208.out) | exact HB.out)) hb)
            clear BK200
            clear BK208
            clear HB
            have BK200 := n0_
            have BK208 := n1_
            have HB := n2_
            clear n0_ n1_ n2_
            (try clear hb)
            (try clear hb2)
            (try clear hk)
            (try clear hi)
            refine hK.out _ _ (((HB.out.cell (World.block_lt_of_cell? w _ hw201_0)).trans hw201_0)) (fun hHeld => ?_)
            clear hK K
            refine norm_ (a' := ?_) ?_ ?_
            rotate_left
            ·show Act.put _ (some 25) _ = _
             simp only [Act.put, List.setIfInBounds_toArray, List.set_cons_zero, List.set_cons_succ, i64_w, i32_w]
             rfl
            refine pure_ (i := 15) (N := some 26) (v := ?_) (a' := ?_) #[true, true, true, true, true, true, true, true, true, true, true, true, true, true, true, true, false, true, false] rfl rfl (any_of HT_.out (by kernel_rfl)) (fun _ _ _ h => h) (Or.inl ⟨by rfl, ?_⟩) ?_ ?_
            rotate_left
            ·intro w'
             go_simp
             with_reducible rfl
            rotate_left
            ·simp only [Act.put, List.setIfInBounds_toArray, List.set_cons_zero, List.set_cons_succ, i64_w, i32_w]
             rfl
            refine pure_ (i := 16) (N := some 27) (v := ?_) (a' := ?_) #[true, true, true, true, true, true, true, true, true, true, true, true, true, true, true, true, true, true, false] rfl rfl (any_of HT_.out (by kernel_rfl)) (fun _ _ _ h => h) (Or.inl ⟨by rfl, ?_⟩) ?_ ?_
            rotate_left
            ·intro w'
             go_simp
             with_reducible rfl
            rotate_left
            ·simp only [Act.put, List.setIfInBounds_toArray, List.set_cons_zero, List.set_cons_succ, i64_w, i32_w]
             rfl
            exact norm_ (by simp only [putAll, Act.put, List.setIfInBounds_toArray, List.set_cons_zero, List.set_cons_succ]) (hCont (gb208) _ ⟨hHeld, (by (with_reducible repeat (first | refine blk_drewN ?_ _ | refine blk_drew ?_ | refine blk_alloc ?_ _)); exact BK200.out), (by (with_reducible repeat (first | refine blk_drewN ?_ _ | refine blk_drew ?_ | refine blk_alloc ?_ _)); exact BK208.out), GW208.out, GE208.out, NB200_208.out, NB208_200.out, (by repeat (first | (with_reducible first | exact HB.out | apply below_alloc | apply pw_below_drewN | apply below_drew1 | refine below_set ?_ GE200.out | refine below_set ?_ GE208.out) | exact HB.out))⟩)
          ·skip
           refine box_step ?hg (N := 4) ?hd (cs := #[.int .i64 0, .int .i64 0, .int .i64 0, .int .i64 0, .int .i64 0, .int .i64 0, .int .i64 0, .int .i64 0, .int .i64 0, .int .i64 0, .int .i64 0, .int .i64 0]) (t := 24) ?hr ?_; (case hd => rfl); (case hg => rfl); (case hr => first | (go_simp; done) | (go_simp; rfl))
           intro gb208 hg w18 hbox hb
           have n0_ := Aside0.mk (blk_below (g := gb200) (o := .cells #[.int .i64 0, .int .i64 0, .int .i64 0, .int .i64 0, .int .i64 0, .int .i64 0, .int .i64 0, .int .i64 0, .int .i64 0, .int .i64 0, .int .i64 0, .int .i64 0] 24 (0, 0)) (by (with_reducible repeat (first | refine blk_drewN ?_ _ | refine blk_drew ?_ | refine blk_alloc ?_ _)); exact BK200.out) hb)
           have n1_ := Aside0.mk (below_step (by repeat (first | (with_reducible first | exact HB.out | apply below_alloc | apply pw_below_drewN | apply below_drew1 | refine below_set ?_ GE200.out) | exact HB.out)) hb)
           have n2_ := Aside0.mk (hbox)
           have n3_ := Aside0.mk ((by rw [hg]; exact (below_size (by repeat (first | (with_reducible first | exact HB.out | apply below_alloc | apply pw_below_drewN | apply below_drew1 | refine below_set ?_ GE200.out) | exact HB.out))) : w.heap.size ≤ gb208))
           have n4_ := Aside0.mk ((by rw [hg]; exact (below_size (by repeat (first | (with_reducible first | exact HB.out | apply below_alloc | apply pw_below_drewN | apply below_drew1 | refine below_set ?_ GE200.out) | exact HB.out))) : w.heap.size ≤ gb208))
           have n5_ := Aside0.mk ((by rw [hg]; exact Nat.ne_of_lt (blk_lt (g := gb200) (o := .cells #[.int .i64 0, .int .i64 0, .int .i64 0, .int .i64 0, .int .i64 0, .int .i64 0, .int .i64 0, .int .i64 0, .int .i64 0, .int .i64 0, .int .i64 0, .int .i64 0] 24 (0, 0)) (by (with_reducible repeat (first | refine blk_drewN ?_ _ | refine blk_drew ?_ | refine blk_alloc ?_ _)); exact BK200.out)) : gb200 ≠ gb208))
           have n6_ := Aside0.mk ((by rw [hg]; exact Nat.ne_of_gt (blk_lt (g := gb200) (o := .cells #[.int .i64 0, .int .i64 0, .int .i64 0, .int .i64 0, .int .i64 0, .int .i64 0, .int .i64 0, .int .i64 0, .int .i64 0, .int .i64 0, .int .i64 0, .int .i64 0] 24 (0, 0)) (by (with_reducible repeat (first | refine blk_drewN ?_ _ | refine blk_drew ?_ | refine blk_alloc ?_ _)); exact BK200.out)) : gb208 ≠ gb200))
           clear BK200
           clear HB
           have BK200 := n0_
           have HB := n1_
           have BK208 := n2_
           have GW208 := n3_
           have GE208 := n4_
           have NB200_208 := n5_
           have NB208_200 := n6_
           clear n0_ n1_ n2_ n3_ n4_ n5_ n6_
           clear hb hbox hg
           refine hK.out _ _ (((HB.out.cell (World.block_lt_of_cell? w _ hw201_0)).trans hw201_0)) (fun hHeld => ?_)
           clear hK K
           refine norm_ (a' := ?_) ?_ ?_
           rotate_left
           ·show Act.put _ (some 4) _ = _
            simp only [Act.put, List.setIfInBounds_toArray, List.set_cons_zero, List.set_cons_succ, i64_w, i32_w]
            rfl
           refine one_ (i := 6) (N := some 17) #[true, true, true, true, true, true, true, false, true, true, false, false, true, true, false, false, false, true, false] rfl rfl (one_of HT_.out (by kernel_rfl)) (by decide) (fun K hK => ?_)
           refine goes_ Try.func30 (by kernel_rfl) rfl #[.slice A15 ((l0.take 4).drop 2).length (c0 - 2)] (by rfl) rfl rfl (by (try simp only [List.map_toArray, List.map_cons, List.map_nil]); first | done | (rw [show ((l0.take 4).drop 2).length = (4 - 2) from (by rw [List.length_drop, List.length_take]; have h_ : (4 : Int) ≤ (l0.length : Int) := of_decide_eq_true (by first | (with_reducible assumption) | assumption); omega)] <;> rfl) | rfl | (simp only [List.length_drop, List.length_take]; rfl)) ?_
           with_reducible refine (num_Get.calls k _ _ ((l0.take 4).drop 2) t203 _ ?side1 ?side2 A6.out).mono ?_
           (case side1 => repeat (first | exact (Kd.C_below HR202.out HB.out) | (with_reducible refine Kd.C_alloc ?_ _) | (with_reducible refine Kd.C_drewN ?_ _) | (with_reducible refine Kd.C_drew ?_)))
           (case side2 => exact HC202.out)
           rintro e w19 ⟨rfl, hb⟩
           refine ⟨_, rfl, ?_⟩
           have n0_ := Aside0.mk (blk_below (g := gb200) (o := .cells #[.int .i64 0, .int .i64 0, .int .i64 0, .int .i64 0, .int .i64 0, .int .i64 0, .int .i64 0, .int .i64 0, .int .i64 0, .int .i64 0, .int .i64 0, .int .i64 0] 24 (0, 0)) (by (with_reducible repeat (first | refine blk_drewN ?_ _ | refine blk_drew ?_ | refine blk_alloc ?_ _)); exact BK200.out) hb)
           have n1_ := Aside0.mk (blk_below (g := gb208) (o := .cells #[.int .i64 0, .int .i64 0, .int .i64 0, .int .i64 0, .int .i64 0, .int .i64 0, .int .i64 0, .int .i64 0, .int .i64 0, .int .i64 0, .int .i64 0, .int .i64 0] 24 (0, 0)) (by (with_reducible repeat (first | refine blk_drewN ?_ _ | refine blk_drew ?_ | refine blk_alloc ?_ _)); exact BK208.out) hb)
           have n2_ := Aside0.mk (below_step (by repeat (first | (with_reducible first | exact HB.out | apply below_alloc | apply pw_below_drewN | apply below_drew1 | refine below_set ?_ GE200.out | refine below_set ?_ GE208.out) | exact HB.out)) hb)
           clear BK200
           clear BK208
           clear HB
           have BK200 := n0_
           have BK208 := n1_
           have HB := n2_
           clear n0_ n1_ n2_
           (try clear hb)
           (try clear hb2)
           (try clear hk)
           (try clear hi)
           refine hK.out _ _ (((HB.out.cell (World.block_lt_of_cell? w _ hw201_0)).trans hw201_0)) (fun hHeld => ?_)
           clear hK K
           refine norm_ (a' := ?_) ?_ ?_
           rotate_left
           ·show Act.put _ (some 17) _ = _
            simp only [Act.put, List.setIfInBounds_toArray, List.set_cons_zero, List.set_cons_succ, i64_w, i32_w]
            rfl
           refine pure_ (i := 7) (N := some 18) (v := ?_) (a' := ?_) #[true, true, true, true, true, true, true, true, true, true, false, false, true, true, false, false, false, true, false] rfl rfl (any_of HT_.out (by kernel_rfl)) (fun _ _ _ h => h) (Or.inl ⟨by rfl, ?_⟩) ?_ ?_
           rotate_left
           ·intro w'
            go_simp
            with_reducible rfl
           rotate_left
           ·simp only [Act.put, List.setIfInBounds_toArray, List.set_cons_zero, List.set_cons_succ, i64_w, i32_w]
            rfl
           refine one_ (i := 10) (N := some 21) #[true, true, true, true, true, true, true, true, true, true, true, false, true, true, false, false, false, true, false] rfl rfl (one_of HT_.out (by kernel_rfl)) (by decide) (fun K hK => ?_)
           refine goes_ Try.func30 (by kernel_rfl) rfl #[.slice A16 ((l0.take 8).drop 4).length (c0 - 4)] (by rfl) rfl rfl (by (try simp only [List.map_toArray, List.map_cons, List.map_nil]); first | done | (rw [show ((l0.take 8).drop 4).length = (8 - 4) from (by rw [List.length_drop, List.length_take]; have h_ : (8 : Int) ≤ (l0.length : Int) := of_decide_eq_true (by first | (with_reducible assumption) | assumption); omega)] <;> rfl) | rfl | (simp only [List.length_drop, List.length_take]; rfl)) ?_
           with_reducible refine (num_Get.calls k _ _ ((l0.take 8).drop 4) t205 _ ?side1 ?side2 A9.out).mono ?_
           (case side1 => repeat (first | exact (Kd.C_below HR204.out HB.out) | (with_reducible refine Kd.C_alloc ?_ _) | (with_reducible refine Kd.C_drewN ?_ _) | (with_reducible refine Kd.C_drew ?_)))
           (case side2 => exact HC204.out)
           rintro e w20 ⟨rfl, hb⟩
           refine ⟨_, rfl, ?_⟩
           have n0_ := Aside0.mk (blk_below (g := gb200) (o := .cells #[.int .i64 0, .int .i64 0, .int .i64 0, .int .i64 0, .int .i64 0, .int .i64 0, .int .i64 0, .int .i64 0, .int .i64 0, .int .i64 0, .int .i64 0, .int .i64 0] 24 (0, 0)) (by (with_reducible repeat (first | refine blk_drewN ?_ _ | refine blk_drew ?_ | refine blk_alloc ?_ _)); exact BK200.out) hb)
           have n1_ := Aside0.mk (blk_below (g := gb208) (o := .cells #[.int .i64 0, .int .i64 0, .int .i64 0, .int .i64 0, .int .i64 0, .int .i64 0, .int .i64 0, .int .i64 0, .int .i64 0, .int .i64 0, .int .i64 0, .int .i64 0] 24 (0, 0)) (by (with_reducible repeat (first | refine blk_drewN ?_ _ | refine blk_drew ?_ | refine blk_alloc ?_ _)); exact BK208.out) hb)
           have n2_ := Aside0.mk (below_step (by repeat (first | (with_reducible first | exact HB.out | apply below_alloc | apply pw_below_drewN | apply below_drew1 | refine below_set ?_ GE200.out | refine below_set ?_ GE208.out) | exact HB.out)) hb)
           clear BK200
           clear BK208
           clear HB
           have BK200 := n0_
           have BK208 := n1_
           have HB := n2_
           clear n0_ n1_ n2_
           (try clear hb)
           (try clear hb2)
           (try clear hk)
           (try clear hi)
           refine hK.out _ _ (((HB.out.cell (World.block_lt_of_cell? w _ hw201_0)).trans hw201_0)) (fun hHeld => ?_)
           clear hK K
           refine norm_ (a' := ?_) ?_ ?_
           rotate_left
           ·show Act.put _ (some 21) _ = _
            simp only [Act.put, List.setIfInBounds_toArray, List.set_cons_zero, List.set_cons_succ, i64_w, i32_w]
            rfl
           refine pure_ (i := 11) (N := some 22) (v := ?_) (a' := ?_) #[true, true, true, true, true, true, true, true, true, true, true, true, true, true, false, false, false, true, false] rfl rfl (any_of HT_.out (by kernel_rfl)) (fun _ _ _ h => h) (Or.inl ⟨by rfl, ?_⟩) ?_ ?_
           rotate_left
           ·intro w'
            go_simp
            with_reducible rfl
           rotate_left
           ·simp only [Act.put, List.setIfInBounds_toArray, List.set_cons_zero, List.set_cons_succ, i64_w, i32_w]
            rfl
           refine one_ (i := 14) (N := some 25) #[true, true, true, true, true, true, true, true, true, true, true, true, true, true, true, false, false, true, false] rfl rfl (one_of HT_.out (by kernel_rfl)) (by decide) (fun K hK => ?_)
           refine goes_ Try.func30 (by kernel_rfl) rfl #[.slice A17 ((l0.take 16).drop 8).length (c0 - 8)] (by rfl) rfl rfl (by (try simp only [List.map_toArray, List.map_cons, List.map_nil]); first | done | (rw [show ((l0.take 16).drop 8).length = (16 - 8) from (by rw [List.length_drop, List.length_take]; have h_ : (16 : Int) ≤ (l0.length : Int) := of_decide_eq_true (by first | (with_reducible assumption) | assumption); omega)] <;> rfl) | rfl | (simp only [List.length_drop, List.length_take]; rfl)) ?_
           with_reducible refine (num_Get.calls k _ _ ((l0.take 16).drop 8) t207 _ ?side1 ?side2 A12.out).mono ?_
           (case side1 => repeat (first | exact (Kd.C_below HR206.out HB.out) | (with_reducible refine Kd.C_alloc ?_ _) | (with_reducible refine Kd.C_drewN ?_ _) | (with_reducible refine Kd.C_drew ?_)))
           (case side2 => exact HC206.out)
           rintro e w21 ⟨rfl, hb⟩
           refine ⟨_, rfl, ?_⟩
           have n0_ := Aside0.mk (blk_below (g := gb200) (o := .cells #[.int .i64 0, .int .i64 0, .int .i64 0, .int .i64 0, .int .i64 0, .int .i64 0, .int .i64 0, .int .i64 0, .int .i64 0, .int .i64 0, .int .i64 0, .int .i64 0] 24 (0, 0)) (by (with_reducible repeat (first | refine blk_drewN ?_ _ | refine blk_drew ?_ | refine blk_alloc ?_ _)); exact BK200.out) hb)
           have n1_ := Aside0.mk (blk_below (g := gb208) (o := .cells #[.int .i64 0, .int .i64 0, .int .i64 0, .int .i64 0, .int .i64 0, .int .i64 0, .int .i64 0, .int .i64 0, .int .i64 0, .int .i64 0, .int .i64 0, .int .i64 0] 24 (0, 0)) (by (with_reducible repeat (first | refine blk_drewN ?_ _ | refine blk_drew ?_ | refine blk_alloc ?_ _)); exact BK208.out) hb)
           have n2_ := Aside0.mk (below_step (by repeat (first | (with_reducible first | exact HB.out | apply below_alloc | apply pw_below_drewN | apply below_drew1 | refine below_set ?_ GE200.out | refine below_set ?_ GE208.out) | exact HB.out)) hb)
           clear BK200
           clear BK208
           clear HB
           have BK200 := n0_
           have BK208 := n1_
           have HB := n2_
           clear n0_ n1_ n2_
           (try clear hb)
           (try clear hb2)
           (try clear hk)
           (try clear hi)
           refine hK.out _ _ (((HB.out.cell (World.block_lt_of_cell? w _ hw201_0)).trans hw201_0)) (fun hHeld => ?_)
           clear hK K
           refine norm_ (a' := ?_) ?_ ?_
           rotate_left
           ·show Act.put _ (some 25) _ = _
            simp only [Act.put, List.setIfInBounds_toArray, List.set_cons_zero, List.set_cons_succ, i64_w, i32_w]
            rfl
           refine pure_ (i := 15) (N := some 26) (v := ?_) (a' := ?_) #[true, true, true, true, true, true, true, true, true, true, true, true, true, true, true, true, false, true, false] rfl rfl (any_of HT_.out (by kernel_rfl)) (fun _ _ _ h => h) (Or.inl ⟨by rfl, ?_⟩) ?_ ?_
           rotate_left
           ·intro w'
            go_simp
            with_reducible rfl
           rotate_left
           ·simp only [Act.put, List.setIfInBounds_toArray, List.set_cons_zero, List.set_cons_succ, i64_w, i32_w]
            rfl
           refine pure_ (i := 16) (N := some 27) (v := ?_) (a' := ?_) #[true, true, true, true, true, true, true, true, true, true, true, true, true, true, true, true, true, true, false] rfl rfl (any_of HT_.out (by kernel_rfl)) (fun _ _ _ h => h) (Or.inl ⟨by rfl, ?_⟩) ?_ ?_
           rotate_left
           ·intro w'
            go_simp
            with_reducible rfl
           rotate_left
           ·simp only [Act.put, List.setIfInBounds_toArray, List.set_cons_zero, List.set_cons_succ, i64_w, i32_w]
            rfl
           exact norm_ (by simp only [putAll, Act.put, List.setIfInBounds_toArray, List.set_cons_zero, List.set_cons_succ]) (hCont (gb208) _ ⟨hHeld, (by (with_reducible repeat (first | refine blk_drewN ?_ _ | refine blk_drew ?_ | refine blk_alloc ?_ _)); exact BK200.out), (by (with_reducible repeat (first | refine blk_drewN ?_ _ | refine blk_drew ?_ | refine blk_alloc ?_ _)); exact BK208.out), GW208.out, GE208.out, NB200_208.out, NB208_200.out, (by repeat (first | (with_reducible first | exact HB.out | apply below_alloc | apply pw_below_drewN | apply below_drew1 | refine below_set ?_ GE200.out | refine below_set ?_ GE208.out) | exact HB.out))⟩)
         rintro gb208 w22 ⟨hS_, h0_, h1_, h2_, h3_, h4_, h5_, h6_⟩
         have n0_ : Aside0 (w22.heap[gb200]? = some (.cells #[.int .i64 0, .int .i64 0, .int .i64 0, .int .i64 0, .int .i64 0, .int .i64 0, .int .i64 0, .int .i64 0, .int .i64 0, .int .i64 0, .int .i64 0, .int .i64 0] 24 (0, 0))) := ⟨h0_⟩
         have n1_ : Aside0 (w22.heap[gb208]? = some (.cells #[.int .i64 0, .int .i64 0, .int .i64 0, .int .i64 0, .int .i64 0, .int .i64 0, .int .i64 0, .int .i64 0, .int .i64 0, .int .i64 0, .int .i64 0, .int .i64 0] 24 (0, 0))) := ⟨h1_⟩
         have n2_ : Aside0 (w.heap.size ≤ gb208) := ⟨h2_⟩
         have n3_ : Aside0 (w.heap.size ≤ gb208) := ⟨h3_⟩
         have n4_ : Aside0 (gb200 ≠ gb208) := ⟨h4_⟩
         have n5_ : Aside0 (gb208 ≠ gb200) := ⟨h5_⟩
         have n6_ : Aside0 (Below w.heap.size w w22) := ⟨h6_⟩
         clear BK200
         clear HB
         clear h0_ h1_ h2_ h3_ h4_ h5_ h6_
         have BK200 := n0_
         have BK208 := n1_
         have GW208 := n2_
         have GE208 := n3_
         have NB200_208 := n4_
         have NB208_200 := n5_
         have HB := n6_
         clear n0_ n1_ n2_ n3_ n4_ n5_ n6_
         have hHeld : w22.cell? ad201 = some (.int .u8 (rd l0 0)) := hS_
         refine norm_ (a' := ?_) ?_ ?_
         rotate_left
         ·simp only [putAll, Act.put, List.setIfInBounds_toArray, List.set_cons_zero, List.set_cons_succ]
          rfl
         refine one_ (i := 18) (N := none) #[true, true, true, true, true, true, true, true, true, true, true, true, true, true, true, true, true, true, true] rfl rfl (one_of HT_.out (by kernel_rfl)) (by decide) (fun K hK => ?_)
         have hs23 : w22.cell? ⟨gb208, 0, none⟩ = some (.int .i64 0) := (blk_cell BK208.out 0).trans rfl
         have hfs23 := blk_frozen BK208.out 0
         have hns23_0 := NB200_208.out
         have hms23_0 := NB208_200.out
         have hs24 : w22.cell? ⟨gb208, 1, none⟩ = some (.int .i64 0) := (blk_cell BK208.out 1).trans rfl
         have hfs24 := blk_frozen BK208.out 1
         have hns24_0 := NB200_208.out
         have hms24_0 := NB208_200.out
         have hs25 : w22.cell? ⟨gb208, 2, none⟩ = some (.int .i64 0) := (blk_cell BK208.out 2).trans rfl
         have hfs25 := blk_frozen BK208.out 2
         have hns25_0 := NB200_208.out
         have hms25_0 := NB208_200.out
         have hs26 : w22.cell? ⟨gb208, 3, none⟩ = some (.int .i64 0) := (blk_cell BK208.out 3).trans rfl
         have hfs26 := blk_frozen BK208.out 3
         have hns26_0 := NB200_208.out
         have hms26_0 := NB208_200.out
         have hs27 : w22.cell? ⟨gb208, 4, none⟩ = some (.int .i64 0) := (blk_cell BK208.out 4).trans rfl
         have hfs27 := blk_frozen BK208.out 4
         have hns27_0 := NB200_208.out
         have hms27_0 := NB208_200.out
         have hs28 : w22.cell? ⟨gb208, 5, none⟩ = some (.int .i64 0) := (blk_cell BK208.out 5).trans rfl
         have hfs28 := blk_frozen BK208.out 5
         have hns28_0 := NB200_208.out
         have hms28_0 := NB208_200.out
         have hs29 : w22.cell? ⟨gb208, 6, none⟩ = some (.int .i64 0) := (blk_cell BK208.out 6).trans rfl
         have hfs29 := blk_frozen BK208.out 6
         have hns29_0 := NB200_208.out
         have hms29_0 := NB208_200.out
         have hs30 : w22.cell? ⟨gb208, 7, none⟩ = some (.int .i64 0) := (blk_cell BK208.out 7).trans rfl
         have hfs30 := blk_frozen BK208.out 7
         have hns30_0 := NB200_208.out
         have hms30_0 := NB208_200.out
         have hs31 : w22.cell? ⟨gb208, 8, none⟩ = some (.int .i64 0) := (blk_cell BK208.out 8).trans rfl
         have hfs31 := blk_frozen BK208.out 8
         have hns31_0 := NB200_208.out
         have hms31_0 := NB208_200.out
         have hs32 : w22.cell? ⟨gb208, 9, none⟩ = some (.int .i64 0) := (blk_cell BK208.out 9).trans rfl
         have hfs32 := blk_frozen BK208.out 9
         have hns32_0 := NB200_208.out
         have hms32_0 := NB208_200.out
         have hs33 : w22.cell? ⟨gb208, 10, none⟩ = some (.int .i64 0) := (blk_cell BK208.out 10).trans rfl
         have hfs33 := blk_frozen BK208.out 10
         have hns33_0 := NB200_208.out
         have hms33_0 := NB208_200.out
         have hs34 : w22.cell? ⟨gb208, 11, none⟩ = some (.int .i64 0) := (blk_cell BK208.out 11).trans rfl
         have hfs34 := blk_frozen BK208.out 11
         have hns34_0 := NB200_208.out
         have hms34_0 := NB208_200.out
         refine skip_ (w1 := ?_) (by rfl) rfl ?_ ?_
         rotate_left
         ·go_simp
          rfl
         refine hK.out _ _ (((cell_far (p := ⟨gb208, _, none⟩) (by first | exact Nat.ne_of_lt (Nat.lt_of_lt_of_le (by have := World.block_lt_of_cell? _ _ hw201_0; first | rwa [add_block] at this | exact this) GW208.out) | (rw [add_block]; exact Nat.ne_of_lt (Nat.lt_of_lt_of_le (by have := World.block_lt_of_cell? _ _ hw201_0; first | rwa [add_block] at this | exact this) GW208.out)) | (show (Addr.add _ _).block ≠ _; rw [add_block]; exact Nat.ne_of_lt (Nat.lt_of_lt_of_le (by have := World.block_lt_of_cell? _ _ hw201_0; first | rwa [add_block] at this | exact this) GW208.out)) | (dsimp only; exact Nat.ne_of_lt (Nat.lt_of_lt_of_le (by have := World.block_lt_of_cell? _ _ hw201_0; first | rwa [add_block] at this | exact this) GW208.out))) _).trans (((cell_far (p := ⟨gb208, _, none⟩) (by first | exact Nat.ne_of_lt (Nat.lt_of_lt_of_le (by have := World.block_lt_of_cell? _ _ hw201_0; first | rwa [add_block] at this | exact this) GW208.out) | (rw [add_block]; exact Nat.ne_of_lt (Nat.lt_of_lt_of_le (by have := World.block_lt_of_cell? _ _ hw201_0; first | rwa [add_block] at this | exact this) GW208.out)) | (show (Addr.add _ _).block ≠ _; rw [add_block]; exact Nat.ne_of_lt (Nat.lt_of_lt_of_le (by have := World.block_lt_of_cell? _ _ hw201_0; first | rwa [add_block] at this | exact this) GW208.out)) | (dsimp only; exact Nat.ne_of_lt (Nat.lt_of_lt_of_le (by have := World.block_lt_of_cell? _ _ hw201_0; first | rwa [add_block] at this | exact this) GW208.out))) _).trans (((cell_far (p := ⟨gb208, _, none⟩) (by first | exact Nat.ne_of_lt (Nat.lt_of_lt_of_le (by have := World.block_lt_of_cell? _ _ hw201_0; first | rwa [add_block] at this | exact this) GW208.out) | (rw [add_block]; exact Nat.ne_of_lt (Nat.lt_of_lt_of_le (by have := World.block_lt_of_cell? _ _ hw201_0; first | rwa [add_block] at this | exact this) GW208.out)) | (show (Addr.add _ _).block ≠ _; rw [add_block]; exact Nat.ne_of_lt (Nat.lt_of_lt_of_le (by have := World.block_lt_of_cell? _ _ hw201_0; first | rwa [add_block] at this | exact this) GW208.out)) | (dsimp only; exact Nat.ne_of_lt (Nat.lt_of_lt_of_le (by have := World.block_lt_of_cell? _ _ hw201_0; first | rwa [add_block] at this | exact this) GW208.out))) _).trans (((cell_far (p := ⟨gb208, _, none⟩) (by first | exact Nat.ne_of_lt (Nat.lt_of_lt_of_le (by have := World.block_lt_of_cell? _ _ hw201_0; first | rwa [add_block] at this | exact this) GW208.out) | (rw [add_block]; exact Nat.ne_of_lt (Nat.lt_of_lt_of_le (by have := World.block_lt_of_cell? _ _ hw201_0; first | rwa [add_block] at this | exact this) GW208.out)) | (show (Addr.add _ _).block ≠ _; rw [add_block]; exact Nat.ne_of_lt (Nat.lt_of_lt_of_le (by have := World.block_lt_of_cell? _ _ hw201_0; first | rwa [add_block] at this | exact this) GW208.out)) | (dsimp only; exact Nat.ne_of_lt (Nat.lt_of_lt_of_le (by have := World.block_lt_of_cell? _ _ hw201_0; first | rwa [add_block] at this | exact this) GW208.out))) _).trans (((cell_far (p := ⟨gb208, _, none⟩) (by first | exact Nat.ne_of_lt (Nat.lt_of_lt_of_le (by have := World.block_lt_of_cell? _ _ hw201_0; first | rwa [add_block] at this | exact this) GW208.out) | (rw [add_block]; exact Nat.ne_of_lt (Nat.lt_of_lt_of_le (by have := World.block_lt_of_cell? _ _ hw201_0; first | rwa [add_block] at this | exact this) GW208.out)) | (show (Addr.add _ _).block ≠ _; rw [add_block]; exact Nat.ne_of_lt (Nat.lt_of_lt_of_le (by have := World.block_lt_of_cell? _ _ hw201_0; first | rwa [add_block] at this | exact this) GW208.out)) | (dsimp only; exact Nat.ne_of_lt (Nat.lt_of_lt_of_le (by have := World.block_lt_of_cell? _ _ hw201_0; first | rwa [add_block] at this | exact this) GW208.out))) _).trans (((cell_far (p := ⟨gb208, _, none⟩) (by first | exact Nat.ne_of_lt (Nat.lt_of_lt_of_le (by have := World.block_lt_of_cell? _ _ hw201_0; first | rwa [add_block] at this | exact this) GW208.out) | (rw [add_block]; exact Nat.ne_of_lt (Nat.lt_of_lt_of_le (by have := World.block_lt_of_cell? _ _ hw201_0; first | rwa [add_block] at this | exact this) GW208.out)) | (show (Addr.add _ _).block ≠ _; rw [add_block]; exact Nat.ne_of_lt (Nat.lt_of_lt_of_le (by have := World.block_lt_of_cell? _ _ hw201_0; first | rwa [add_block] at this | exact this) GW208.out)) | (dsimp only; exact Nat.ne_of_lt (Nat.lt_of_lt_of_le (by have := World.block_lt_of_cell? _ _ hw201_0; first | rwa [add_block] at this | exact this) GW208.out))) _).trans (((cell_far (p := ⟨gb208, _, none⟩) (by first | exact Nat.ne_of_lt (Nat.lt_of_lt_of_le (by have := World.block_lt_of_cell? _ _ hw201_0; first | rwa [add_block] at this | exact this) GW208.out) | (rw [add_block]; exact Nat.ne_of_lt (Nat.lt_of_lt_of_le (by have := World.block_lt_of_cell? _ _ hw201_0; first | rwa [add_block] at this | exact this) GW208.out)) | (show (Addr.add _ _).block ≠ _; rw [add_block]; exact Nat.ne_of_lt (Nat.lt_of_lt_of_le (by have := World.block_lt_of_cell? _ _ hw201_0; first | rwa [add_block] at this | exact this) GW208.out)) | (dsimp only; exact Nat.ne_of_lt (Nat.lt_of_lt_of_le (by have := World.block_lt_of_cell? _ _ hw201_0; first | rwa [add_block] at this | exact this) GW208.out))) _).trans (((cell_far (p := ⟨gb208, _, none⟩) (by first | exact Nat.ne_of_lt (Nat.lt_of_lt_of_le (by have := World.block_lt_of_cell? _ _ hw201_0; first | rwa [add_block] at this | exact this) GW208.out) | (rw [add_block]; exact Nat.ne_of_lt (Nat.lt_of_lt_of_le (by have := World.block_lt_of_cell? _ _ hw201_0; first | rwa [add_block] at this | exact this) GW208.out)) | (show (Addr.add _ _).block ≠ _; rw [add_block]; exact Nat.ne_of_lt (Nat.lt_of_lt_of_le (by have := World.block_lt_of_cell? _ _ hw201_0; first | rwa [add_block] at this | exact this) GW208.out)) | (dsimp only; exact Nat.ne_of_lt (Nat.lt_of_lt_of_le (by have := World.block_lt_of_cell? _ _ hw201_0; first | rwa [add_block] at this | exact this) GW208.out))) _).trans (((cell_far (p := ⟨gb208, _, none⟩) (by first | exact Nat.ne_of_lt (Nat.lt_of_lt_of_le (by have := World.block_lt_of_cell? _ _ hw201_0; first | rwa [add_block] at this | exact this) GW208.out) | (rw [add_block]; exact Nat.ne_of_lt (Nat.lt_of_lt_of_le (by have := World.block_lt_of_cell? _ _ hw201_0; first | rwa [add_block] at this | exact this) GW208.out)) | (show (Addr.add _ _).block ≠ _; rw [add_block]; exact Nat.ne_of_lt (Nat.lt_of_lt_of_le (by have := World.block_lt_of_cell? _ _ hw201_0; first | rwa [add_block] at this | exact this) GW208.out)) | (dsimp only; exact Nat.ne_of_lt (Nat.lt_of_lt_of_le (by have := World.block_lt_of_cell? _ _ hw201_0; first | rwa [add_block] at this | exact this) GW208.out))) _).trans (((cell_far (p := ⟨gb208, _, none⟩) (by first | exact Nat.ne_of_lt (Nat.lt_of_lt_of_le (by have := World.block_lt_of_cell? _ _ hw201_0; first | rwa [add_block] at this | exact this) GW208.out) | (rw [add_block]; exact Nat.ne_of_lt (Nat.lt_of_lt_of_le (by have := World.block_lt_of_cell? _ _ hw201_0; first | rwa [add_block] at this | exact this) GW208.out)) | (show (Addr.add _ _).block ≠ _; rw [add_block]; exact Nat.ne_of_lt (Nat.lt_of_lt_of_le (by have := World.block_lt_of_cell? _ _ hw201_0; first | rwa [add_block] at this | exact this) GW208.out)) | (dsimp only; exact Nat.ne_of_lt (Nat.lt_of_lt_of_le (by have := World.block_lt_of_cell? _ _ hw201_0; first | rwa [add_block] at this | exact this) GW208.out))) _).trans (((cell_far (p := ⟨gb208, _, none⟩) (by first | exact Nat.ne_of_lt (Nat.lt_of_lt_of_le (by have := World.block_lt_of_cell? _ _ hw201_0; first | rwa [add_block] at this | exact this) GW208.out) | (rw [add_block]; exact Nat.ne_of_lt (Nat.lt_of_lt_of_le (by have := World.block_lt_of_cell? _ _ hw201_0; first | rwa [add_block] at this | exact this) GW208.out)) | (show (Addr.add _ _).block ≠ _; rw [add_block]; exact Nat.ne_of_lt (Nat.lt_of_lt_of_le (by have := World.block_lt_of_cell? _ _ hw201_0; first | rwa [add_block] at this | exact this) GW208.out)) | (dsimp only; exact Nat.ne_of_lt (Nat.lt_of_lt_of_le (by have := World.block_lt_of_cell? _ _ hw201_0; first | rwa [add_block] at this | exact this) GW208.out))) _).trans (((cell_far (p := ⟨gb208, _, none⟩) (by first | exact Nat.ne_of_lt (Nat.lt_of_lt_of_le (by have := World.block_lt_of_cell? _ _ hw201_0; first | rwa [add_block] at this | exact this) GW208.out) | (rw [add_block]; exact Nat.ne_of_lt (Nat.lt_of_lt_of_le (by have := World.block_lt_of_cell? _ _ hw201_0; first | rwa [add_block] at this | exact this) GW208.out)) | (show (Addr.add _ _).block ≠ _; rw [add_block]; exact Nat.ne_of_lt (Nat.lt_of_lt_of_le (by have := World.block_lt_of_cell? _ _ hw201_0; first | rwa [add_block] at this | exact this) GW208.out)) | (dsimp only; exact Nat.ne_of_lt (Nat.lt_of_lt_of_le (by have := World.block_lt_of_cell? _ _ hw201_0; first | rwa [add_block] at this | exact this) GW208.out))) _).trans (hHeld))))))))))))))))))))))))) (fun hHeld => ?_)
         clear hK K
         refine done_ (done_of HT_.out (by kernel_rfl)) ?_
         try go_wp2_with (first | ((with_reducible refine gate_dst (N := 5) rfl ?_); refine box_event ?hg (N := 5) ?hd (cs := #[.int .i64 0, .int .i64 0, .int .i64 0, .int .i64 0, .int .i64 0, .int .i64 0, .int .i64 0, .int .i64 0]) (t := 49) ?hr ?_; (case hd => rfl); (case hg => rfl); (case hr => first | (go_simp; done) | (go_simp; rfl)); intro gb209 hg w35 hbox hb; have n0_ := Aside0.mk (blk_below (g := gb200) (o := .cells #[.int .i64 0, .int .i64 0, .int .i64 0, .int .i64 0, .int .i64 0, .int .i64 0, .int .i64 0, .int .i64 0, .int .i64 0, .int .i64 0, .int .i64 0, .int .i64 0] 24 (0, 0)) (by (with_reducible repeat (first | refine blk_drewN ?_ _ | refine blk_drew ?_ | refine blk_alloc ?_ _)); refine blk_far12 ?_ NB200_208.out; (with_reducible repeat (first | refine blk_drewN ?_ _ | refine blk_drew ?_ | refine blk_alloc ?_ _)); exact BK200.out) hb); have n1_ := Aside0.mk (blk_below (g := gb208) (o := .cells #[.int .i64 (wrap64 (rd l0 0)), .int .i64 (wrap64 (t203)), .int .i64 (wrap64 (t205)), .int .i64 (wrap64 (t207)), .int .i64 0, .int .i64 0, .int .i64 0, .int .i64 0, .int .i64 0, .int .i64 0, .int .i64 0, .int .i64 0] 24 (0, 0)) (by (with_reducible repeat (first | refine blk_drewN ?_ _ | refine blk_drew ?_ | refine blk_alloc ?_ _)); refine blk_put12 (.int .i64 0) (.int .i64 0) (.int .i64 0) (.int .i64 0) (.int .i64 0) (.int .i64 0) (.int .i64 0) (.int .i64 0) (.int .i64 0) (.int .i64 0) (.int .i64 0) (.int .i64 0) ?_; (with_reducible repeat (first | refine blk_drewN ?_ _ | refine blk_drew ?_ | refine blk_alloc ?_ _)); exact BK208.out) hb); have n2_ := Aside0.mk (below_step (by repeat (first | (with_reducible first | exact HB.out | apply below_alloc | apply pw_below_drewN | apply below_drew1 | refine below_set ?_ GE200.out | refine below_set ?_ GE208.out) | exact HB.out)) hb); have n3_ := Aside0.mk (hbox); have n4_ := Aside0.mk ((by rw [hg]; exact (below_size (by repeat (first | (with_reducible first | exact HB.out | apply below_alloc | apply pw_below_drewN | apply below_drew1 | refine below_set ?_ GE200.out | refine below_set ?_ GE208.out) | exact HB.out))) : w.heap.size ≤ gb209)); have n5_ := Aside0.mk ((by rw [hg]; exact (below_size (by repeat (first | (with_reducible first | exact HB.out | apply below_alloc | apply pw_below_drewN | apply below_drew1 | refine below_set ?_ GE200.out | refine below_set ?_ GE208.out) | exact HB.out))) : w.heap.size ≤ gb209)); have n6_ := Aside0.mk ((by rw [hg]; exact Nat.ne_of_lt (blk_lt (g := gb200) (o := .cells #[.int .i64 0, .int .i64 0, .int .i64 0, .int .i64 0, .int .i64 0, .int .i64 0, .int .i64 0, .int .i64 0, .int .i64 0, .int .i64 0, .int .i64 0, .int .i64 0] 24 (0, 0)) (by (with_reducible repeat (first | refine blk_drewN ?_ _ | refine blk_drew ?_ | refine blk_alloc ?_ _)); refine blk_far12 ?_ NB200_208.out; (with_reducible repeat (first | refine blk_drewN ?_ _ | refine blk_drew ?_ | refine blk_alloc ?_ _)); exact BK200.out)) : gb200 ≠ gb209)); have n7_ := Aside0.mk ((by rw [hg]; exact Nat.ne_of_gt (blk_lt (g := gb200) (o := .cells #[.int .i64 0, .int .i64 0, .int .i64 0, .int .i64 0, .int .i64 0, .int .i64 0, .int .i64 0, .int .i64 0, .int .i64 0, .int .i64 0, .int .i64 0, .int .i64 0] 24 (0, 0)) (by (with_reducible repeat (first | refine blk_drewN ?_ _ | refine blk_drew ?_ | refine blk_alloc ?_ _)); refine blk_far12 ?_ NB200_208.out; (with_reducible repeat (first | refine blk_drewN ?_ _ | refine blk_drew ?_ | refine blk_alloc ?_ _)); exact BK200.out)) : gb209 ≠ gb200)); have n8_ := Aside0.mk ((by rw [hg]; exact Nat.ne_of_lt (blk_lt (g := gb208) (o := .cells #[.int .i64 (wrap64 (rd l0 0)), .int .i64 (wrap64 (t203)), .int .i64 (wrap64 (t205)), .int .i64 (wrap64 (t207)), .int .i64 0, .int .i64 0, .int .i64 0, .int .i64 0, .int .i64 0, .int .i64 0, .int .i64 0, .int .i64 0] 24 (0, 0)) (by (with_reducible repeat (first | refine blk_drewN ?_ _ | refine blk_drew ?_ | refine blk_alloc ?_ _)); refine blk_put12 (.int .i64 0) (.int .i64 0) (.int .i64 0) (.int .i64 0) (.int .i64 0) (.int .i64 0) (.int .i64 0) (.int .i64 0) (.int .i64 0) (.int .i64 0) (.int .i64 0) (.int .i64 0) ?_; (with_reducible repeat (first | refine blk_drewN ?_ _ | refine blk_drew ?_ | refine blk_alloc ?_ _)); exact BK208.out)) : gb208 ≠ gb209)); have n9_ := Aside0.mk ((by rw [hg]; exact Nat.ne_of_gt (blk_lt (g := gb208) (o := .cells #[.int .i64 (wrap64 (rd l0 0)), .int .i64 (wrap64 (t203)), .int .i64 (wrap64 (t205)), .int .i64 (wrap64 (t207)), .int .i64 0, .int .i64 0, .int .i64 0, .int .i64 0, .int .i64 0, .int .i64 0, .int .i64 0, .int .i64 0] 24 (0, 0)) (by (with_reducible repeat (first | refine blk_drewN ?_ _ | refine blk_drew ?_ | refine blk_alloc ?_ _)); refine blk_put12 (.int .i64 0) (.int .i64 0) (.int .i64 0) (.int .i64 0) (.int .i64 0) (.int .i64 0) (.int .i64 0) (.int .i64 0) (.int .i64 0) (.int .i64 0) (.int .i64 0) (.int .i64 0) ?_; (with_reducible repeat (first | refine blk_drewN ?_ _ | refine blk_drew ?_ | refine blk_alloc ?_ _)); exact BK208.out)) : gb209 ≠ gb208)); clear BK200; clear BK208; clear HB; have BK200 := n0_; have BK208 := n1_; have HB := n2_; have BK209 := n3_; have GW209 := n4_; have GE209 := n5_; have NB200_209 := n6_; have NB209_200 := n7_; have NB208_209 := n8_; have NB209_208 := n9_; clear n0_ n1_ n2_ n3_ n4_ n5_ n6_ n7_ n8_ n9_; clear hb hbox hg))
         go_loopg [28] k (fun kq v28 w' => ∃ (x28_1 : Int) (x210000_1 : Int) (x210001_1 : Int) (x210002_1 : Int) (x210003_1 : Int) (x210004_1 : Int) (x210005_1 : Int) (x210006_1 : Int) (x210007_1 : Int), v28 = .int .i64 x28_1 ∧ Aside0 (inode_Get.l0 kq l0 x28_1 (wrap64 (rd l0 0)) (wrap64 (t203)) (wrap64 (t205)) (wrap64 (t207)) 0 0 0 0 0 0 0 0 x210000_1 x210001_1 x210002_1 x210003_1 x210004_1 x210005_1 x210006_1 x210007_1 = some (r1, r2, r3, r4, r5, r6, r7, r8, r9, r10, r11, r12, r13)) ∧ Aside0 (kq ≤ k) ∧ Aside0 (w'.heap[gb200]? = some (.cells #[.int .i64 0, .int .i64 0, .int .i64 0, .int .i64 0, .int .i64 0, .int .i64 0, .int .i64 0, .int .i64 0, .int .i64 0, .int .i64 0, .int .i64 0, .int .i64 0] 24 (0, 0))) ∧ Aside0 (w'.heap[gb208]? = some (.cells #[.int .i64 (wrap64 (rd l0 0)), .int .i64 (wrap64 (t203)), .int .i64 (wrap64 (t205)), .int .i64 (wrap64 (t207)), .int .i64 0, .int .i64 0, .int .i64 0, .int .i64 0, .int .i64 0, .int .i64 0, .int .i64 0, .int .i64 0] 24 (0, 0))) ∧ Aside0 (w'.heap[gb209]? = some (.cells #[.int .i64 x210000_1, .int .i64 x210001_1, .int .i64 x210002_1, .int .i64 x210003_1, .int .i64 x210004_1, .int .i64 x210005_1, .int .i64 x210006_1, .int .i64 x210007_1] 49 (0, 0))) ∧ Aside0 (Below w.heap.size w w'))
         case atStart => exact ⟨(0), (0), (0), (0), (0), (0), (0), (0), (0), (by first | rfl | (simp; done) | (simp [*]; done)), H', ⟨Nat.le_refl _⟩, ⟨by (with_reducible repeat (first | refine blk_drewN ?_ _ | refine blk_drew ?_ | refine blk_alloc ?_ _)); exact BK200.out⟩, ⟨by (with_reducible repeat (first | refine blk_drewN ?_ _ | refine blk_drew ?_ | refine blk_alloc ?_ _)); exact BK208.out⟩, ⟨by (with_reducible repeat (first | refine blk_drewN ?_ _ | refine blk_drew ?_ | refine blk_alloc ?_ _)); exact BK209.out⟩, ⟨by repeat (first | (with_reducible first | exact HB.out | apply below_alloc | apply pw_below_drewN | apply below_drew1 | refine below_set ?_ GE200.out | refine below_set ?_ GE208.out | refine below_set ?_ GE209.out) | exact HB.out)⟩⟩
         case round =>
          clear H'
          try clear p2
          try clear c3
          try clear p6
          try clear c30
          obtain ⟨x28_1, x210000_1, x210001_1, x210002_1, x210003_1, x210004_1, x210005_1, x210006_1, x210007_1, rfl, HA, HK1, BK200, BK208, BK209, HB⟩ := hrel
          cases gk with
          | zero => exact absurd HA.out (by simp [inode_Get.l0])
          | succ k1 =>
           have H := HA.out
           clear HA
           simp only [inode_Get.l0] at H
           by_cases c36 : x28_1 < 8
           ·rw [if_pos c36] at H
            have c36b0 : decide (x28_1 < 8) = true := decide_eq_true c36
            clear c36
            obtain ⟨ji37, hji37⟩ : ∃ j_ : Int, (wrap64 (16 + (wrap64 (x28_1 * 2)))) = j_ := ⟨_, rfl⟩
            replace H : (if 0 ≤ (ji37) then (if (ji37) ≤ (wrap64 (16 + (wrap64 ((wrap64 (x28_1 + 1)) * 2)))) then (if (wrap64 (16 + (wrap64 ((wrap64 (x28_1 + 1)) * 2)))) ≤ (l0.length : Int) then ((num_Get.f k1 ((l0.take ((wrap64 (16 + (wrap64 ((wrap64 (x28_1 + 1)) * 2)))) : Int).toNat).drop ((ji37) : Int).toNat)).bind fun t211 => (if x28_1 = (0 : Int) then (inode_Get.l0 k1 l0 (wrap64 (x28_1 + 1)) (wrap64 (rd l0 0)) (wrap64 (t203)) (wrap64 (t205)) (wrap64 (t207)) 0 0 0 0 0 0 0 0 (wrap64 (t211)) x210001_1 x210002_1 x210003_1 x210004_1 x210005_1 x210006_1 x210007_1) else (if x28_1 = (1 : Int) then (inode_Get.l0 k1 l0 (wrap64 (x28_1 + 1)) (wrap64 (rd l0 0)) (wrap64 (t203)) (wrap64 (t205)) (wrap64 (t207)) 0 0 0 0 0 0 0 0 x210000_1 (wrap64 (t211)) x210002_1 x210003_1 x210004_1 x210005_1 x210006_1 x210007_1) else (if x28_1 = (2 : Int) then (inode_Get.l0 k1 l0 (wrap64 (x28_1 + 1)) (wrap64 (rd l0 0)) (wrap64 (t203)) (wrap64 (t205)) (wrap64 (t207)) 0 0 0 0 0 0 0 0 x210000_1 x210001_1 (wrap64 (t211)) x210003_1 x210004_1 x210005_1 x210006_1 x210007_1) else (if x28_1 = (3 : Int) then (inode_Get.l0 k1 l0 (wrap64 (x28_1 + 1)) (wrap64 (rd l0 0)) (wrap64 (t203)) (wrap64 (t205)) (wrap64 (t207)) 0 0 0 0 0 0 0 0 x210000_1 x210001_1 x210002_1 (wrap64 (t211)) x210004_1 x210005_1 x210006_1 x210007_1) else (if x28_1 = (4 : Int) then (inode_Get.l0 k1 l0 (wrap64 (x28_1 + 1)) (wrap64 (rd l0 0)) (wrap64 (t203)) (wrap64 (t205)) (wrap64 (t207)) 0 0 0 0 0 0 0 0 x210000_1 x210001_1 x210002_1 x210003_1 (wrap64 (t211)) x210005_1 x210006_1 x210007_1) else (if x28_1 = (5 : Int) then (inode_Get.l0 k1 l0 (wrap64 (x28_1 + 1)) (wrap64 (rd l0 0)) (wrap64 (t203)) (wrap64 (t205)) (wrap64 (t207)) 0 0 0 0 0 0 0 0 x210000_1 x210001_1 x210002_1 x210003_1 x210004_1 (wrap64 (t211)) x210006_1 x210007_1) else (if x28_1 = (6 : Int) then (inode_Get.l0 k1 l0 (wrap64 (x28_1 + 1)) (wrap64 (rd l0 0)) (wrap64 (t203)) (wrap64 (t205)) (wrap64 (t207)) 0 0 0 0 0 0 0 0 x210000_1 x210001_1 x210002_1 x210003_1 x210004_1 x210005_1 (wrap64 (t211)) x210007_1) else (if x28_1 = (7 : Int) then (inode_Get.l0 k1 l0 (wrap64 (x28_1 + 1)) (wrap64 (rd l0 0)) (wrap64 (t203)) (wrap64 (t205)) (wrap64 (t207)) 0 0 0 0 0 0 0 0 x210000_1 x210001_1 x210002_1 x210003_1 x210004_1 x210005_1 x210006_1 (wrap64 (t211))) else (none)))))))))) else (none)) else (none)) else (none)) = some (r1, r2, r3, r4, r5, r6, r7, r8, r9, r10, r11, r12, r13) := by first | (rw [hji37] at H; exact H) | (simp only [hji37] at H ⊢; exact H)
            have hji37w : (IntKind.i64.wrap (16 + (wrap64 (x28_1 * 2)))) = ji37 := (i64_w _).trans hji37
            by_cases c38 : 0 ≤ (ji37)
            ·rw [if_pos c38] at H
             have c38b0 := eq_true c38
             have c38b1 : decide (0 ≤ (ji37)) = true := decide_eq_true c38
             clear c38
             by_cases c39 : (ji37) ≤ (wrap64 (16 + (wrap64 ((wrap64 (x28_1 + 1)) * 2))))
             ·rw [if_pos c39] at H
              have c39b0 := eq_true c39
              have c39b1 : decide ((ji37) ≤ (wrap64 (16 + (wrap64 ((wrap64 (x28_1 + 1)) * 2))))) = true := decide_eq_true c39
              by_cases c40 : (wrap64 (16 + (wrap64 ((wrap64 (x28_1 + 1)) * 2)))) ≤ (l0.length : Int)
              ·rw [if_pos c40] at H
               have c40b0 := eq_true c40
               have c40b1 : decide ((wrap64 (16 + (wrap64 ((wrap64 (x28_1 + 1)) * 2)))) ≤ (l0.length : Int)) = true := decide_eq_true c40
               replace H := Option.bind_eq_some_iff.mp H
               obtain ⟨t211, A410, H⟩ := H
               replace H : (if x28_1 = (0 : Int) then (inode_Get.l0 k1 l0 (wrap64 (x28_1 + 1)) (wrap64 (rd l0 0)) (wrap64 (t203)) (wrap64 (t205)) (wrap64 (t207)) 0 0 0 0 0 0 0 0 (wrap64 (t211)) x210001_1 x210002_1 x210003_1 x210004_1 x210005_1 x210006_1 x210007_1) else (if x28_1 = (1 : Int) then (inode_Get.l0 k1 l0 (wrap64 (x28_1 + 1)) (wrap64 (rd l0 0)) (wrap64 (t203)) (wrap64 (t205)) (wrap64 (t207)) 0 0 0 0 0 0 0 0 x210000_1 (wrap64 (t211)) x210002_1 x210003_1 x210004_1 x210005_1 x210006_1 x210007_1) else (if x28_1 = (2 : Int) then (inode_Get.l0 k1 l0 (wrap64 (x28_1 + 1)) (wrap64 (rd l0 0)) (wrap64 (t203)) (wrap64 (t205)) (wrap64 (t207)) 0 0 0 0 0 0 0 0 x210000_1 x210001_1 (wrap64 (t211)) x210003_1 x210004_1 x210005_1 x210006_1 x210007_1) else (if x28_1 = (3 : Int) then (inode_Get.l0 k1 l0 (wrap64 (x28_1 + 1)) (wrap64 (rd l0 0)) (wrap64 (t203)) (wrap64 (t205)) (wrap64 (t207)) 0 0 0 0 0 0 0 0 x210000_1 x210001_1 x210002_1 (wrap64 (t211)) x210004_1 x210005_1 x210006_1 x210007_1) else (if x28_1 = (4 : Int) then (inode_Get.l0 k1 l0 (wrap64 (x28_1 + 1)) (wrap64 (rd l0 0)) (wrap64 (t203)) (wrap64 (t205)) (wrap64 (t207)) 0 0 0 0 0 0 0 0 x210000_1 x210001_1 x210002_1 x210003_1 (wrap64 (t211)) x210005_1 x210006_1 x210007_1) else (if x28_1 = (5 : Int) then (inode_Get.l0 k1 l0 (wrap64 (x28_1 + 1)) (wrap64 (rd l0 0)) (wrap64 (t203)) (wrap64 (t205)) (wrap64 (t207)) 0 0 0 0 0 0 0 0 x210000_1 x210001_1 x210002_1 x210003_1 x210004_1 (wrap64 (t211)) x210006_1 x210007_1) else (if x28_1 = (6 : Int) then (inode_Get.l0 k1 l0 (wrap64 (x28_1 + 1)) (wrap64 (rd l0 0)) (wrap64 (t203)) (wrap64 (t205)) (wrap64 (t207)) 0 0 0 0 0 0 0 0 x210000_1 x210001_1 x210002_1 x210003_1 x210004_1 x210005_1 (wrap64 (t211)) x210007_1) else (if x28_1 = (7 : Int) then (inode_Get.l0 k1 l0 (wrap64 (x28_1 + 1)) (wrap64 (rd l0 0)) (wrap64 (t203)) (wrap64 (t205)) (wrap64 (t207)) 0 0 0 0 0 0 0 0 x210000_1 x210001_1 x210002_1 x210003_1 x210004_1 x210005_1 x210006_1 (wrap64 (t211))) else (none))))))))) = some (r1, r2, r3, r4, r5, r6, r7, r8, r9, r10, r11, r12, r13) := H
               have A41 := Aside0.mk A410
               clear A410
               by_cases c42 : x28_1 = (0 : Int)
               ·rw [if_pos c42] at H
                have c42z := Aside0.mk c42
                (try (have c42i : ∀ (t_ : TypeId) (v_ : Value), Instr.index t_ v_ (.int .i64 x28_1) = Instr.index t_ v_ (.int .i64 0) := fun _ _ => by rw [c42]))
                (try (have c42a : ∀ (t_ : TypeId) (v_ : Value), Instr.indexAt t_ v_ (.int .i64 x28_1) = Instr.indexAt t_ v_ (.int .i64 0) := fun _ _ => by rw [c42]))
                (try (have c42j22 : ∀ (W_ : World) (v0_ v1_ v2_ v3_ v4_ v5_ : Value), (Instr.index 22 (.agg #[v0_, v1_, v2_, v3_, v4_, v5_]) (.int .i64 0)).run Try.prog W_ = .ok v0_ W_ := by intros; kernel_rfl))
                (try (have c42j49 : ∀ (W_ : World) (v0_ v1_ v2_ v3_ v4_ v5_ v6_ v7_ : Value), (Instr.index 49 (.agg #[v0_, v1_, v2_, v3_, v4_, v5_, v6_, v7_]) (.int .i64 0)).run Try.prog W_ = .ok v0_ W_ := by intros; kernel_rfl))
                have c42b0 : (x28_1 == (0 : Int)) = true := beq_iff_eq.mpr c42
                have c42b1 : (x28_1 != (0 : Int)) = false := bne_eq_false_iff_eq.mpr c42
                clear c42
                have H' := Aside0.mk H
                clear H
                obtain ⟨i043, hi043, _, hsz43, _⟩ := info_parts info5
                obtain ⟨A43, hcut43, hA43, hC43⟩ := print_mid_of (P := Try.prog) (Value.int .u8) 0 25 5 .i64 .i64 Try.underlying25 hi043 hsz43 (some ad201) c0 l0 (ji37) (wrap64 (16 + (wrap64 ((wrap64 (x28_1 + 1)) * 2)))) (of_decide_eq_true (by first | (with_reducible assumption) | assumption)) (by first | omega | exact of_decide_eq_true (by first | (with_reducible assumption) | assumption)) (of_decide_eq_true (by first | (with_reducible assumption) | assumption)) HC0.out
                have HR210 := Aside0.mk (Kd.C_of_reads (h1 := fun _ => rfl) (hA43 _ (Kd.reads_of_C HR0.out)))
                have HC210 := Aside0.mk hC43
                clear hA43 hC43 hi043 hsz43
                go_wp2_with (first | ((with_reducible refine gate_callee (f := 30) rfl ?_); refine goesL_ (some 41) rfl rfl Try.func30 (by kernel_rfl) rfl #[.slice A43 ((l0.take ((wrap64 (16 + (wrap64 ((wrap64 (x28_1 + 1)) * 2)))) : Int).toNat).drop ((ji37) : Int).toNat).length (c0 - (ji37).toNat)] rfl (by (try simp only [List.map_toArray, List.map_cons, List.map_nil]); first | done | (rw [show ((l0.take ((wrap64 (16 + (wrap64 ((wrap64 (x28_1 + 1)) * 2)))) : Int).toNat).drop ((ji37) : Int).toNat).length = ((wrap64 (16 + (wrap64 ((wrap64 (x28_1 + 1)) * 2)))).toNat - (ji37).toNat) from (by rw [List.length_drop, List.length_take]; have h_ : ((wrap64 (16 + (wrap64 ((wrap64 (x28_1 + 1)) * 2)))) : Int) ≤ (l0.length : Int) := of_decide_eq_true (by first | (with_reducible assumption) | assumption); omega)] <;> rfl) | (simp only [hji37]; rfl) | rfl | (simp only [List.length_drop, List.length_take]; rfl)) ?_; (with_reducible refine (num_Get.calls k1 _ _ ((l0.take ((wrap64 (16 + (wrap64 ((wrap64 (x28_1 + 1)) * 2)))) : Int).toNat).drop ((ji37) : Int).toNat) t211 _ ?side1 ?side2 A41.out).mono ?_); (case side1 => repeat (first | exact (Kd.C_below HR210.out HB.out) | (with_reducible refine Kd.C_alloc ?_ _) | (with_reducible refine Kd.C_drewN ?_ _) | (with_reducible refine Kd.C_drew ?_))); (case side2 => exact HC210.out); rintro e w44 ⟨rfl, hb⟩; refine ⟨_, rfl, ?_⟩; have n0_ := Aside0.mk (blk_below (g := gb200) (o := .cells #[.int .i64 0, .int .i64 0, .int .i64 0, .int .i64 0, .int .i64 0, .int .i64 0, .int .i64 0, .int .i64 0, .int .i64 0, .int .i64 0, .int .i64 0, .int .i64 0] 24 (0, 0)) (by (with_reducible repeat (first | refine blk_drewN ?_ _ | refine blk_drew ?_ | refine blk_alloc ?_ _)); exact BK200.out) hb); have n1_ := Aside0.mk (blk_below (g := gb208) (o := .cells #[.int .i64 (wrap64 (rd l0 0)), .int .i64 (wrap64 (t203)), .int .i64 (wrap64 (t205)), .int .i64 (wrap64 (t207)), .int .i64 0, .int .i64 0, .int .i64 0, .int .i64 0, .int .i64 0, .int .i64 0, .int .i64 0, .int .i64 0] 24 (0, 0)) (by (with_reducible repeat (first | refine blk_drewN ?_ _ | refine blk_drew ?_ | refine blk_alloc ?_ _)); exact BK208.out) hb); have n2_ := Aside0.mk (blk_below (g := gb209) (o := .cells #[.int .i64 x210000_1, .int .i64 x210001_1, .int .i64 x210002_1, .int .i64 x210003_1, .int .i64 x210004_1, .int .i64 x210005_1, .int .i64 x210006_1, .int .i64 x210007_1] 49 (0, 0)) (by (with_reducible repeat (first | refine blk_drewN ?_ _ | refine blk_drew ?_ | refine blk_alloc ?_ _)); exact BK209.out) hb); have n3_ := Aside0.mk (below_step (by repeat (first | (with_reducible first | exact HB.out | apply below_alloc | apply pw_below_drewN | apply below_drew1 | refine below_set ?_ GE200.out | refine below_set ?_ GE208.out | refine below_set ?_ GE209.out) | exact HB.out)) hb); clear BK200; clear BK208; clear BK209; clear HB; have BK200 := n0_; have BK208 := n1_; have BK209 := n2_; have HB := n3_; clear n0_ n1_ n2_ n3_; (try clear hb); (try clear hb2); (try clear hk); (try clear hi); have hnb45 := NB209_200.out; have hnc45 := NB200_209.out; have hnb46 := NB209_208.out; have hnc46 := NB208_209.out; have q_ := cells8 BK209.out; have hcz47_0 := q_.c0; have hcz47_1 := q_.c1; have hcz47_2 := q_.c2; have hcz47_3 := q_.c3; have hcz47_4 := q_.c4; have hcz47_5 := q_.c5; have hcz47_6 := q_.c6; have hcz47_7 := q_.c7; have hfz47_0 := q_.f0; have hfz47_1 := q_.f1; have hfz47_2 := q_.f2; have hfz47_3 := q_.f3; have hfz47_4 := q_.f4; have hfz47_5 := q_.f5; have hfz47_6 := q_.f6; have hfz47_7 := q_.f7; clear q_))
                go_roundg k1
                case measure => have := HK1.out; omega
                case rel => exact ⟨(wrap64 (x28_1 + 1)), (wrap64 (t211)), (x210001_1), (x210002_1), (x210003_1), (x210004_1), (x210005_1), (x210006_1), (x210007_1), (by first | rfl | (simp; done) | (simp [*]; done) | (have hz_ := c42z.out; congr 1; unfold wrap64; omega)), H', ⟨by have := HK1.out; omega⟩, ⟨by (with_reducible repeat (first | refine blk_drewN ?_ _ | refine blk_drew ?_ | refine blk_alloc ?_ _)); refine blk_far ?_ NB200_209.out _; (with_reducible repeat (first | refine blk_drewN ?_ _ | refine blk_drew ?_ | refine blk_alloc ?_ _)); exact BK200.out⟩, ⟨by (with_reducible repeat (first | refine blk_drewN ?_ _ | refine blk_drew ?_ | refine blk_alloc ?_ _)); refine blk_far ?_ NB208_209.out _; (with_reducible repeat (first | refine blk_drewN ?_ _ | refine blk_drew ?_ | refine blk_alloc ?_ _)); exact BK208.out⟩, ⟨by (with_reducible repeat (first | refine blk_drewN ?_ _ | refine blk_drew ?_ | refine blk_alloc ?_ _)); refine blk_put (cs := #[.int .i64 x210000_1, .int .i64 x210001_1, .int .i64 x210002_1, .int .i64 x210003_1, .int .i64 x210004_1, .int .i64 x210005_1, .int .i64 x210006_1, .int .i64 x210007_1]) ?_ 0 _ rfl; (with_reducible repeat (first | refine blk_drewN ?_ _ | refine blk_drew ?_ | refine blk_alloc ?_ _)); exact BK209.out⟩, ⟨by repeat (first | (with_reducible first | exact HB.out | apply below_alloc | apply pw_below_drewN | apply below_drew1 | refine below_set ?_ GE200.out | refine below_set ?_ GE208.out | refine below_set ?_ GE209.out) | exact HB.out)⟩⟩
               ·rw [if_neg c42] at H
                have c42b0 : (x28_1 == (0 : Int)) = false := beq_eq_false_iff_ne.mpr c42
                have c42b1 : (x28_1 != (0 : Int)) = true := bne_iff_ne.mpr c42
                by_cases c48 : x28_1 = (1 : Int)
                ·rw [if_pos c48] at H
                 have c48z := Aside0.mk c48
                 (try (have c48i : ∀ (t_ : TypeId) (v_ : Value), Instr.index t_ v_ (.int .i64 x28_1) = Instr.index t_ v_ (.int .i64 1) := fun _ _ => by rw [c48]))
                 (try (have c48a : ∀ (t_ : TypeId) (v_ : Value), Instr.indexAt t_ v_ (.int .i64 x28_1) = Instr.indexAt t_ v_ (.int .i64 1) := fun _ _ => by rw [c48]))
                 (try (have c48j22 : ∀ (W_ : World) (v0_ v1_ v2_ v3_ v4_ v5_ : Value), (Instr.index 22 (.agg #[v0_, v1_, v2_, v3_, v4_, v5_]) (.int .i64 1)).run Try.prog W_ = .ok v1_ W_ := by intros; kernel_rfl))
                 (try (have c48j49 : ∀ (W_ : World) (v0_ v1_ v2_ v3_ v4_ v5_ v6_ v7_ : Value), (Instr.index 49 (.agg #[v0_, v1_, v2_, v3_, v4_, v5_, v6_, v7_]) (.int .i64 1)).run Try.prog W_ = .ok v1_ W_ := by intros; kernel_rfl))
                 have c48b0 : (x28_1 == (1 : Int)) = true := beq_iff_eq.mpr c48
                 have c48b1 : (x28_1 != (1 : Int)) = false := bne_eq_false_iff_eq.mpr c48
                 clear c48
                 have H' := Aside0.mk H
                 clear H
                 obtain ⟨i049, hi049, _, hsz49, _⟩ := info_parts info5
                 obtain ⟨A49, hcut49, hA49, hC49⟩ := print_mid_of (P := Try.prog) (Value.int .u8) 0 25 5 .i64 .i64 Try.underlying25 hi049 hsz49 (some ad201) c0 l0 (ji37) (wrap64 (16 + (wrap64 ((wrap64 (x28_1 + 1)) * 2)))) (of_decide_eq_true (by first | (with_reducible assumption) | assumption)) (by first | omega | exact of_decide_eq_true (by first | (with_reducible assumption) | assumption)) (of_decide_eq_true (by first | (with_reducible assumption) | assumption)) HC0.out
                 have HR210 := Aside0.mk (Kd.C_of_reads (h1 := fun _ => rfl) (hA49 _ (Kd.reads_of_C HR0.out)))
                 have HC210 := Aside0.mk hC49
                 clear hA49 hC49 hi049 hsz49
                 go_wp2_with (first | ((with_reducible refine gate_callee (f := 30) rfl ?_); refine goesL_ (some 41) rfl rfl Try.func30 (by kernel_rfl) rfl #[.slice A49 ((l0.take ((wrap64 (16 + (wrap64 ((wrap64 (x28_1 + 1)) * 2)))) : Int).toNat).drop ((ji37) : Int).toNat).length (c0 - (ji37).toNat)] rfl (by (try simp only [List.map_toArray, List.map_cons, List.map_nil]); first | done | (rw [show ((l0.take ((wrap64 (16 + (wrap64 ((wrap64 (x28_1 + 1)) * 2)))) : Int).toNat).drop ((ji37) : Int).toNat).length = ((wrap64 (16 + (wrap64 ((wrap64 (x28_1 + 1)) * 2)))).toNat - (ji37).toNat) from (by rw [List.length_drop, List.length_take]; have h_ : ((wrap64 (16 + (wrap64 ((wrap64 (x28_1 + 1)) * 2)))) : Int) ≤ (l0.length : Int) := of_decide_eq_true (by first | (with_reducible assumption) | assumption); omega)] <;> rfl) | (simp only [hji37]; rfl) | rfl | (simp only [List.length_drop, List.length_take]; rfl)) ?_; (with_reducible refine (num_Get.calls k1 _ _ ((l0.take ((wrap64 (16 + (wrap64 ((wrap64 (x28_1 + 1)) * 2)))) : Int).toNat).drop ((ji37) : Int).toNat) t211 _ ?side1 ?side2 A41.out).mono ?_); (case side1 => repeat (first | exact (Kd.C_below HR210.out HB.out) | (with_reducible refine Kd.C_alloc ?_ _) | (with_reducible refine Kd.C_drewN ?_ _) | (with_reducible refine Kd.C_drew ?_))); (case side2 => exact HC210.out); rintro e w50 ⟨rfl, hb⟩; refine ⟨_, rfl, ?_⟩; have n0_ := Aside0.mk (blk_below (g := gb200) (o := .cells #[.int .i64 0, .int .i64 0, .int .i64 0, .int .i64 0, .int .i64 0, .int .i64 0, .int .i64 0, .int .i64 0, .int .i64 0, .int .i64 0, .int .i64 0, .int .i64 0] 24 (0, 0)) (by (with_reducible repeat (first | refine blk_drewN ?_ _ | refine blk_drew ?_ | refine blk_alloc ?_ _)); exact BK200.out) hb); have n1_ := Aside0.mk (blk_below (g := gb208) (o := .cells #[.int .i64 (wrap64 (rd l0 0)), .int .i64 (wrap64 (t203)), .int .i64 (wrap64 (t205)), .int .i64 (wrap64 (t207)), .int .i64 0, .int .i64 0, .int .i64 0, .int .i64 0, .int .i64 0, .int .i64 0, .int .i64 0, .int .i64 0] 24 (0, 0)) (by (with_reducible repeat (first | refine blk_drewN ?_ _ | refine blk_drew ?_ | refine blk_alloc ?_ _)); exact BK208.out) hb); have n2_ := Aside0.mk (blk_below (g := gb209) (o := .cells #[.int .i64 x210000_1, .int .i64 x210001_1, .int .i64 x210002_1, .int .i64 x210003_1, .int .i64 x210004_1, .int .i64 x210005_1, .int .i64 x210006_1, .int .i64 x210007_1] 49 (0, 0)) (by (with_reducible repeat (first | refine blk_drewN ?_ _ | refine blk_drew ?_ | refine blk_alloc ?_ _)); exact BK209.out) hb); have n3_ := Aside0.mk (below_step (by repeat (first | (with_reducible first | exact HB.out | apply below_alloc | apply pw_below_drewN | apply below_drew1 | refine below_set ?_ GE200.out | refine below_set ?_ GE208.out | refine below_set ?_ GE209.out) | exact HB.out)) hb); clear BK200; clear BK208; clear BK209; clear HB; have BK200 := n0_; have BK208 := n1_; have BK209 := n2_; have HB := n3_; clear n0_ n1_ n2_ n3_; (try clear hb); (try clear hb2); (try clear hk); (try clear hi); have hnb51 := NB209_200.out; have hnc51 := NB200_209.out; have hnb52 := NB209_208.out; have hnc52 := NB208_209.out; have q_ := cells8 BK209.out; have hcz53_0 := q_.c0; have hcz53_1 := q_.c1; have hcz53_2 := q_.c2; have hcz53_3 := q_.c3; have hcz53_4 := q_.c4; have hcz53_5 := q_.c5; have hcz53_6 := q_.c6; have hcz53_7 := q_.c7; have hfz53_0 := q_.f0; have hfz53_1 := q_.f1; have hfz53_2 := q_.f2; have hfz53_3 := q_.f3; have hfz53_4 := q_.f4; have hfz53_5 := q_.f5; have hfz53_6 := q_.f6; have hfz53_7 := q_.f7; clear q_))
                 go_roundg k1
                 case measure => have := HK1.out; omega
                 case rel => exact ⟨(wrap64 (x28_1 + 1)), (x210000_1), (wrap64 (t211)), (x210002_1), (x210003_1), (x210004_1), (x210005_1), (x210006_1), (x210007_1), (by first | rfl | (simp; done) | (simp [*]; done) | (have hz_ := c48z.out; congr 1; unfold wrap64; omega)), H', ⟨by have := HK1.out; omega⟩, ⟨by (with_reducible repeat (first | refine blk_drewN ?_ _ | refine blk_drew ?_ | refine blk_alloc ?_ _)); refine blk_far ?_ NB200_209.out _; (with_reducible repeat (first | refine blk_drewN ?_ _ | refine blk_drew ?_ | refine blk_alloc ?_ _)); exact BK200.out⟩, ⟨by (with_reducible repeat (first | refine blk_drewN ?_ _ | refine blk_drew ?_ | refine blk_alloc ?_ _)); refine blk_far ?_ NB208_209.out _; (with_reducible repeat (first | refine blk_drewN ?_ _ | refine blk_drew ?_ | refine blk_alloc ?_ _)); exact BK208.out⟩, ⟨by (with_reducible repeat (first | refine blk_drewN ?_ _ | refine blk_drew ?_ | refine blk_alloc ?_ _)); refine blk_put (cs := #[.int .i64 x210000_1, .int .i64 x210001_1, .int .i64 x210002_1, .int .i64 x210003_1, .int .i64 x210004_1, .int .i64 x210005_1, .int .i64 x210006_1, .int .i64 x210007_1]) ?_ 1 _ rfl; (with_reducible repeat (first | refine blk_drewN ?_ _ | refine blk_drew ?_ | refine blk_alloc ?_ _)); exact BK209.out⟩, ⟨by repeat (first | (with_reducible first | exact HB.out | apply below_alloc | apply pw_below_drewN | apply below_drew1 | refine below_set ?_ GE200.out | refine below_set ?_ GE208.out | refine below_set ?_ GE209.out) | exact HB.out)⟩⟩
                ·rw [if_neg c48] at H
                 have c48b0 : (x28_1 == (1 : Int)) = false := beq_eq_false_iff_ne.mpr c48
                 have c48b1 : (x28_1 != (1 : Int)) = true := bne_iff_ne.mpr c48
                 by_cases c54 : x28_1 = (2 : Int)
                 ·rw [if_pos c54] at H
                  have c54z := Aside0.mk c54
                  (try (have c54i : ∀ (t_ : TypeId) (v_ : Value), Instr.index t_ v_ (.int .i64 x28_1) = Instr.index t_ v_ (.int .i64 2) := fun _ _ => by rw [c54]))
                  (try (have c54a : ∀ (t_ : TypeId) (v_ : Value), Instr.indexAt t_ v_ (.int .i64 x28_1) = Instr.indexAt t_ v_ (.int .i64 2) := fun _ _ => by rw [c54]))
                  (try (have c54j22 : ∀ (W_ : World) (v0_ v1_ v2_ v3_ v4_ v5_ : Value), (Instr.index 22 (.agg #[v0_, v1_, v2_, v3_, v4_, v5_]) (.int .i64 2)).run Try.prog W_ = .ok v2_ W_ := by intros; kernel_rfl))
                  (try (have c54j49 : ∀ (W_ : World) (v0_ v1_ v2_ v3_ v4_ v5_ v6_ v7_ : Value), (Instr.index 49 (.agg #[v0_, v1_, v2_, v3_, v4_, v5_, v6_, v7_]) (.int .i64 2)).run Try.prog W_ = .ok v2_ W_ := by intros; kernel_rfl))
                  have c54b0 : (x28_1 == (2 : Int)) = true := beq_iff_eq.mpr c54
                  have c54b1 : (x28_1 != (2 : Int)) = false := bne_eq_false_iff_eq.mpr c54
                  clear c54
                  have H' := Aside0.mk H
                  clear H
                  obtain ⟨i055, hi055, _, hsz55, _⟩ := info_parts info5
                  obtain ⟨A55, hcut55, hA55, hC55⟩ := print_mid_of (P := Try.prog) (Value.int .u8) 0 25 5 .i64 .i64 Try.underlying25 hi055 hsz55 (some ad201) c0 l0 (ji37) (wrap64 (16 + (wrap64 ((wrap64 (x28_1 + 1)) * 2)))) (of_decide_eq_true (by first | (with_reducible assumption) | assumption)) (by first | omega | exact of_decide_eq_true (by first | (with_reducible assumption) | assumption)) (of_decide_eq_true (by first | (with_reducible assumption) | assumption)) HC0.out
                  have HR210 := Aside0.mk (Kd.C_of_reads (h1 := fun _ => rfl) (hA55 _ (Kd.reads_of_C HR0.out)))
                  have HC210 := Aside0.mk hC55
                  clear hA55 hC55 hi055 hsz55
                  go_wp2_with (first | ((with_reducible refine gate_callee (f := 30) rfl ?_); refine goesL_ (some 41) rfl rfl Try.func30 (by kernel_rfl) rfl #[.slice A55 ((l0.take ((wrap64 (16 + (wrap64 ((wrap64 (x28_1 + 1)) * 2)))) : Int).toNat).drop ((ji37) : Int).toNat).length (c0 - (ji37).toNat)] rfl (by (try simp only [List.map_toArray, List.map_cons, List.map_nil]); first | done | (rw [show ((l0.take ((wrap64 (16 + (wrap64 ((wrap64 (x28_1 + 1)) * 2)))) : Int).toNat).drop ((ji37) : Int).toNat).length = ((wrap64 (16 + (wrap64 ((wrap64 (x28_1 + 1)) * 2)))).toNat - (ji37).toNat) from (by rw [List.length_drop, List.length_take]; have h_ : ((wrap64 (16 + (wrap64 ((wrap64 (x28_1 + 1)) * 2)))) : Int) ≤ (l0.length : Int) := of_decide_eq_true (by first | (with_reducible assumption) | assumption); omega)] <;> rfl) | (simp only [hji37]; rfl) | rfl | (simp only [List.length_drop, List.length_take]; rfl)) ?_; (with_reducible refine (num_Get.calls k1 _ _ ((l0.take ((wrap64 (16 + (wrap64 ((wrap64 (x28_1 + 1)) * 2)))) : Int).toNat).drop ((ji37) : Int).toNat) t211 _ ?side1 ?side2 A41.out).mono ?_); (case side1 => repeat (first | exact (Kd.C_below HR210.out HB.out) | (with_reducible refine Kd.C_alloc ?_ _) | (with_reducible refine Kd.C_drewN ?_ _) | (with_reducible refine Kd.C_drew ?_))); (case side2 => exact HC210.out); rintro e w56 ⟨rfl, hb⟩; refine ⟨_, rfl, ?_⟩; have n0_ := Aside0.mk (blk_below (g := gb200) (o := .cells #[.int .i64 0, .int .i64 0, .int .i64 0, .int .i64 0, .int .i64 0, .int .i64 0, .int .i64 0, .int .i64 0, .int .i64 0, .int .i64 0, .int .i64 0, .int .i64 0] 24 (0, 0)) (by (with_reducible repeat (first | refine blk_drewN ?_ _ | refine blk_drew ?_ | refine blk_alloc ?_ _)); exact BK200.out) hb); have n1_ := Aside0.mk (blk_below (g := gb208) (o := .cells #[.int .i64 (wrap64 (rd l0 0)), .int .i64 (wrap64 (t203)), .int .i64 (wrap64 (t205)), .int .i64 (wrap64 (t207)), .int .i64 0, .int .i64 0, .int .i64 0, .int .i64 0, .int .i64 0, .int .i64 0, .int .i64 0, .int .i64 0] 24 (0, 0)) (by (with_reducible repeat (first | refine blk_drewN ?_ _ | refine blk_drew ?_ | refine blk_alloc ?_ _)); exact BK208.out) hb); have n2_ := Aside0.mk (blk_below (g := gb209) (o := .cells #[.int .i64 x210000_1, .int .i64 x210001_1, .int .i64 x210002_1, .int .i64 x210003_1, .int .i64 x210004_1, .int .i64 x210005_1, .int .i64 x210006_1, .int .i64 x210007_1] 49 (0, 0)) (by (with_reducible repeat (first | refine blk_drewN ?_ _ | refine blk_drew ?_ | refine blk_alloc ?_ _)); exact BK209.out) hb); have n3_ := Aside0.mk (below_step (by repeat (first | (with_reducible first | exact HB.out | apply below_alloc | apply pw_below_drewN | apply below_drew1 | refine below_set ?_ GE200.out | refine below_set ?_ GE208.out | refine below_set ?_ GE209.out) | exact HB.out)) hb); clear BK200; clear BK208; clear BK209; clear HB; have BK200 := n0_; have BK208 := n1_; have BK209 := n2_; have HB := n3_; clear n0_ n1_ n2_ n3_; (try clear hb); (try clear hb2); (try clear hk); (try clear hi); have hnb57 := NB209_200.out; have hnc57 := NB200_209.out; have hnb58 := NB209_208.out; have hnc58 := NB208_209.out; have q_ := cells8 BK209.out; have hcz59_0 := q_.c0; have hcz59_1 := q_.c1; have hcz59_2 := q_.c2; have hcz59_3 := q_.c3; have hcz59_4 := q_.c4; have hcz59_5 := q_.c5; have hcz59_6 := q_.c6; have hcz59_7 := q_.c7; have hfz59_0 := q_.f0; have hfz59_1 := q_.f1; have hfz59_2 := q_.f2; have hfz59_3 := q_.f3; have hfz59_4 := q_.f4; have hfz59_5 := q_.f5; have hfz59_6 := q_.f6; have hfz59_7 := q_.f7; clear q_))
                  go_roundg k1
                  case measure => have := HK1.out; omega
                  case rel => exact ⟨(wrap64 (x28_1 + 1)), (x210000_1), (x210001_1), (wrap64 (t211)), (x210003_1), (x210004_1), (x210005_1), (x210006_1), (x210007_1), (by first | rfl | (simp; done) | (simp [*]; done) | (have hz_ := c54z.out; congr 1; unfold wrap64; omega)), H', ⟨by have := HK1.out; omega⟩, ⟨by (with_reducible repeat (first | refine blk_drewN ?_ _ | refine blk_drew ?_ | refine blk_alloc ?_ _)); refine blk_far ?_ NB200_209.out _; (with_reducible repeat (first | refine blk_drewN ?_ _ | refine blk_drew ?_ | refine blk_alloc ?_ _)); exact BK200.out⟩, ⟨by (with_reducible repeat (first | refine blk_drewN ?_ _ | refine blk_drew ?_ | refine blk_alloc ?_ _)); refine blk_far ?_ NB208_209.out _; (with_reducible repeat (first | refine blk_drewN ?_ _ | refine blk_drew ?_ | refine blk_alloc ?_ _)); exact BK208.out⟩, ⟨by (with_reducible repeat (first | refine blk_drewN ?_ _ | refine blk_drew ?_ | refine blk_alloc ?_ _)); refine blk_put (cs := #[.int .i64 x210000_1, .int .i64 x210001_1, .int .i64 x210002_1, .int .i64 x210003_1, .int .i64 x210004_1, .int .i64 x210005_1, .int .i64 x210006_1, .int .i64 x210007_1]) ?_ 2 _ rfl; (with_reducible repeat (first | refine blk_drewN ?_ _ | refine blk_drew ?_ | refine blk_alloc ?_ _)); exact BK209.out⟩, ⟨by repeat (first | (with_reducible first | exact HB.out | apply below_alloc | apply pw_below_drewN | apply below_drew1 | refine below_set ?_ GE200.out | refine below_set ?_ GE208.out | refine below_set ?_ GE209.out) | exact HB.out)⟩⟩
                 ·rw [if_neg c54] at H
                  have c54b0 : (x28_1 == (2 : Int)) = false := beq_eq_false_iff_ne.mpr c54
                  have c54b1 : (x28_1 != (2 : Int)) = true := bne_iff_ne.mpr c54
                  by_cases c60 : x28_1 = (3 : Int)
                  ·rw [if_pos c60] at H
                   have c60z := Aside0.mk c60
                   (try (have c60i : ∀ (t_ : TypeId) (v_ : Value), Instr.index t_ v_ (.int .i64 x28_1) = Instr.index t_ v_ (.int .i64 3) := fun _ _ => by rw [c60]))
                   (try (have c60a : ∀ (t_ : TypeId) (v_ : Value), Instr.indexAt t_ v_ (.int .i64 x28_1) = Instr.indexAt t_ v_ (.int .i64 3) := fun _ _ => by rw [c60]))
                   (try (have c60j22 : ∀ (W_ : World) (v0_ v1_ v2_ v3_ v4_ v5_ : Value), (Instr.index 22 (.agg #[v0_, v1_, v2_, v3_, v4_, v5_]) (.int .i64 3)).run Try.prog W_ = .ok v3_ W_ := by intros; kernel_rfl))
                   (try (have c60j49 : ∀ (W_ : World) (v0_ v1_ v2_ v3_ v4_ v5_ v6_ v7_ : Value), (Instr.index 49 (.agg #[v0_, v1_, v2_, v3_, v4_, v5_, v6_, v7_]) (.int .i64 3)).run Try.prog W_ = .ok v3_ W_ := by intros; kernel_rfl))
                   have c60b0 : (x28_1 == (3 : Int)) = true := beq_iff_eq.mpr c60
                   have c60b1 : (x28_1 != (3 : Int)) = false := bne_eq_false_iff_eq.mpr c60
                   clear c60
                   have H' := Aside0.mk H
                   clear H
                   obtain ⟨i061, hi061, _, hsz61, _⟩ := info_parts info5
                   obtain ⟨A61, hcut61, hA61, hC61⟩ := print_mid_of (P := Try.prog) (Value.int .u8) 0 25 5 .i64 .i64 Try.underlying25 hi061 hsz61 (some ad201) c0 l0 (ji37) (wrap64 (16 + (wrap64 ((wrap64 (x28_1 + 1)) * 2)))) (of_decide_eq_true (by first | (with_reducible assumption) | assumption)) (by first | omega | exact of_decide_eq_true (by first | (with_reducible assumption) | assumption)) (of_decide_eq_true (by first | (with_reducible assumption) | assumption)) HC0.out
                   have HR210 := Aside0.mk (Kd.C_of_reads (h1 := fun _ => rfl) (hA61 _ (Kd.reads_of_C HR0.out)))
                   have HC210 := Aside0.mk hC61
                   clear hA61 hC61 hi061 hsz61
                   go_wp2_with (first | ((with_reducible refine gate_callee (f := 30) rfl ?_); refine goesL_ (some 41) rfl rfl Try.func30 (by kernel_rfl) rfl #[.slice A61 ((l0.take ((wrap64 (16 + (wrap64 ((wrap64 (x28_1 + 1)) * 2)))) : Int).toNat).drop ((ji37) : Int).toNat).length (c0 - (ji37).toNat)] rfl (by (try simp only [List.map_toArray, List.map_cons, List.map_nil]); first | done | (rw [show ((l0.take ((wrap64 (16 + (wrap64 ((wrap64 (x28_1 + 1)) * 2)))) : Int).toNat).drop ((ji37) : Int).toNat).length = ((wrap64 (16 + (wrap64 ((wrap64 (x28_1 + 1)) * 2)))).toNat - (ji37).toNat) from (by rw [List.length_drop, List.length_take]; have h_ : ((wrap64 (16 + (wrap64 ((wrap64 (x28_1 + 1)) * 2)))) : Int) ≤ (l0.length : Int) := of_decide_eq_true (by first | (with_reducible assumption) | assumption); omega)] <;> rfl) | (simp only [hji37]; rfl) | rfl | (simp only [List.length_drop, List.length_take]; rfl)) ?_; (with_reducible refine (num_Get.calls k1 _ _ ((l0.take ((wrap64 (16 + (wrap64 ((wrap64 (x28_1 + 1)) * 2)))) : Int).toNat).drop ((ji37) : Int).toNat) t211 _ ?side1 ?side2 A41.out).mono ?_); (case side1 => repeat (first | exact (Kd.C_below HR210.out HB.out) | (with_reducible refine Kd.C_alloc ?_ _) | (with_reducible refine Kd.C_drewN ?_ _) | (with_reducible refine Kd.C_drew ?_))); (case side2 => exact HC210.out); rintro e w62 ⟨rfl, hb⟩; refine ⟨_, rfl, ?_⟩; have n0_ := Aside0.mk (blk_below (g := gb200) (o := .cells #[.int .i64 0, .int .i64 0, .int .i64 0, .int .i64 0, .int .i64 0, .int .i64 0, .int .i64 0, .int .i64 0, .int .i64 0, .int .i64 0, .int .i64 0, .int .i64 0] 24 (0, 0)) (by (with_reducible repeat (first | refine blk_drewN ?_ _ | refine blk_drew ?_ | refine blk_alloc ?_ _)); exact BK200.out) hb); have n1_ := Aside0.mk (blk_below (g := gb208) (o := .cells #[.int .i64 (wrap64 (rd l0 0)), .int .i64 (wrap64 (t203)), .int .i64 (wrap64 (t205)), .int .i64 (wrap64 (t207)), .int .i64 0, .int .i64 0, .int .i64 0, .int .i64 0, .int .i64 0, .int .i64 0, .int .i64 0, .int .i64 0] 24 (0, 0)) (by (with_reducible repeat (first | refine blk_drewN ?_ _ | refine blk_drew ?_ | refine blk_alloc ?_ _)); exact BK208.out) hb); have n2_ := Aside0.mk (blk_below (g := gb209) (o := .cells #[.int .i64 x210000_1, .int .i64 x210001_1, .int .i64 x210002_1, .int .i64 x210003_1, .int .i64 x210004_1, .int .i64 x210005_1, .int .i64 x210006_1, .int .i64 x210007_1] 49 (0, 0)) (by (with_reducible repeat (first | refine blk_drewN ?_ _ | refine blk_drew ?_ | refine blk_alloc ?_ _)); exact BK209.out) hb); have n3_ := Aside0.mk (below_step (by repeat (first | (with_reducible first | exact HB.out | apply below_alloc | apply pw_below_drewN | apply below_drew1 | refine below_set ?_ GE200.out | refine below_set ?_ GE208.out | refine below_set ?_ GE209.out) | exact HB.out)) hb); clear BK200; clear BK208; clear BK209; clear HB; have BK200 := n0_; have BK208 := n1_; have BK209 := n2_; have HB := n3_; clear n0_ n1_ n2_ n3_; (try clear hb); (try clear hb2); (try clear hk); (try clear hi); have hnb63 := NB209_200.out; have hnc63 := NB200_209.out; have hnb64 := NB209_208.out; have hnc64 := NB208_209.out; have q_ := cells8 BK209.out; have hcz65_0 := q_.c0; have hcz65_1 := q_.c1; have hcz65_2 := q_.c2; have hcz65_3 := q_.c3; have hcz65_4 := q_.c4; have hcz65_5 := q_.c5; have hcz65_6 := q_.c6; have hcz65_7 := q_.c7; have hfz65_0 := q_.f0; have hfz65_1 := q_.f1; have hfz65_2 := q_.f2; have hfz65_3 := q_.f3; have hfz65_4 := q_.f4; have hfz65_5 := q_.f5; have hfz65_6 := q_.f6; have hfz65_7 := q_.f7; clear q_))
                   go_roundg k1
                   case measure => have := HK1.out; omega
                   case rel => exact ⟨(wrap64 (x28_1 + 1)), (x210000_1), (x210001_1), (x210002_1), (wrap64 (t211)), (x210004_1), (x210005_1), (x210006_1), (x210007_1), (by first | rfl | (simp; done) | (simp [*]; done) | (have hz_ := c60z.out; congr 1; unfold wrap64; omega)), H', ⟨by have := HK1.out; omega⟩, ⟨by (with_reducible repeat (first | refine blk_drewN ?_ _ | refine blk_drew ?_ | refine blk_alloc ?_ _)); refine blk_far ?_ NB200_209.out _; (with_reducible repeat (first | refine blk_drewN ?_ _ | refine blk_drew ?_ | refine blk_alloc ?_ _)); exact BK200.out⟩, ⟨by (with_reducible repeat (first | refine blk_drewN ?_ _ | refine blk_drew ?_ | refine blk_alloc ?_ _)); refine blk_far ?_ NB208_209.out _; (with_reducible repeat (first | refine blk_drewN ?_ _ | refine blk_drew ?_ | refine blk_alloc ?_ _)); exact BK208.out⟩, ⟨by (with_reducible repeat (first | refine blk_drewN ?_ _ | refine blk_drew ?_ | refine blk_alloc ?_ _)); refine blk_put (cs := #[.int .i64 x210000_1, .int .i64 x210001_1, .int .i64 x210002_1, .int .i64 x210003_1, .int .i64 x210004_1, .int .i64 x210005_1, .int .i64 x210006_1, .int .i64 x210007_1]) ?_ 3 _ rfl; (with_reducible repeat (first | refine blk_drewN ?_ _ | refine blk_drew ?_ | refine blk_alloc ?_ _)); exact BK209.out⟩, ⟨by repeat (first | (with_reducible first | exact HB.out | apply below_alloc | apply pw_below_drewN | apply below_drew1 | refine below_set ?_ GE200.out | refine below_set ?_ GE208.out | refine below_set ?_ GE209.out) | exact HB.out)⟩⟩
                  ·rw [if_neg c60] at H
                   have c60b0 : (x28_1 == (3 : Int)) = false := beq_eq_false_iff_ne.mpr c60
                   have c60b1 : (x28_1 != (3 : Int)) = true := bne_iff_ne.mpr c60
                   by_cases c66 : x28_1 = (4 : Int)
                   ·rw [if_pos c66] at H
                    have c66z := Aside0.mk c66
                    (try (have c66i : ∀ (t_ : TypeId) (v_ : Value), Instr.index t_ v_ (.int .i64 x28_1) = Instr.index t_ v_ (.int .i64 4) := fun _ _ => by rw [c66]))
                    (try (have c66a : ∀ (t_ : TypeId) (v_ : Value), Instr.indexAt t_ v_ (.int .i64 x28_1) = Instr.indexAt t_ v_ (.int .i64 4) := fun _ _ => by rw [c66]))
                    (try (have c66j22 : ∀ (W_ : World) (v0_ v1_ v2_ v3_ v4_ v5_ : Value), (Instr.index 22 (.agg #[v0_, v1_, v2_, v3_, v4_, v5_]) (.int .i64 4)).run Try.prog W_ = .ok v4_ W_ := by intros; kernel_rfl))
                    (try (have c66j49 : ∀ (W_ : World) (v0_ v1_ v2_ v3_ v4_ v5_ v6_ v7_ : Value), (Instr.index 49 (.agg #[v0_, v1_, v2_, v3_, v4_, v5_, v6_, v7_]) (.int .i64 4)).run Try.prog W_ = .ok v4_ W_ := by intros; kernel_rfl))
                    have c66b0 : (x28_1 == (4 : Int)) = true := beq_iff_eq.mpr c66
                    have c66b1 : (x28_1 != (4 : Int)) = false := bne_eq_false_iff_eq.mpr c66
                    clear c66
                    have H' := Aside0.mk H
                    clear H
                    obtain ⟨i067, hi067, _, hsz67, _⟩ := info_parts info5
                    obtain ⟨A67, hcut67, hA67, hC67⟩ := print_mid_of (P := Try.prog) (Value.int .u8) 0 25 5 .i64 .i64 Try.underlying25 hi067 hsz67 (some ad201) c0 l0 (ji37) (wrap64 (16 + (wrap64 ((wrap64 (x28_1 + 1)) * 2)))) (of_decide_eq_true (by first | (with_reducible assumption) | assumption)) (by first | omega | exact of_decide_eq_true (by first | (with_reducible assumption) | assumption)) (of_decide_eq_true (by first | (with_reducible assumption) | assumption)) HC0.out
                    have HR210 := Aside0.mk (Kd.C_of_reads (h1 := fun _ => rfl) (hA67 _ (Kd.reads_of_C HR0.out)))
                    have HC210 := Aside0.mk hC67
                    clear hA67 hC67 hi067 hsz67
                    go_wp2_with (first | ((with_reducible refine gate_callee (f := 30) rfl ?_); refine goesL_ (some 41) rfl rfl Try.func30 (by kernel_rfl) rfl #[.slice A67 ((l0.take ((wrap64 (16 + (wrap64 ((wrap64 (x28_1 + 1)) * 2)))) : Int).toNat).drop ((ji37) : Int).toNat).length (c0 - (ji37).toNat)] rfl (by (try simp only [List.map_toArray, List.map_cons, List.map_nil]); first | done | (rw [show ((l0.take ((wrap64 (16 + (wrap64 ((wrap64 (x28_1 + 1)) * 2)))) : Int).toNat).drop ((ji37) : Int).toNat).length = ((wrap64 (16 + (wrap64 ((wrap64 (x28_1 + 1)) * 2)))).toNat - (ji37).toNat) from (by rw [List.length_drop, List.length_take]; have h_ : ((wrap64 (16 + (wrap64 ((wrap64 (x28_1 + 1)) * 2)))) : Int) ≤ (l0.length : Int) := of_decide_eq_true (by first | (with_reducible assumption) | assumption); omega)] <;> rfl) | (simp only [hji37]; rfl) | rfl | (simp only [List.length_drop, List.length_take]; rfl)) ?_; (with_reducible refine (num_Get.calls k1 _ _ ((l0.take ((wrap64 (16 + (wrap64 ((wrap64 (x28_1 + 1)) * 2)))) : Int).toNat).drop ((ji37) : Int).toNat) t211 _ ?side1 ?side2 A41.out).mono ?_); (case side1 => repeat (first | exact (Kd.C_below HR210.out HB.out) | (with_reducible refine Kd.C_alloc ?_ _) | (with_reducible refine Kd.C_drewN ?_ _) | (with_reducible refine Kd.C_drew ?_))); (case side2 => exact HC210.out); rintro e w68 ⟨rfl, hb⟩; refine ⟨_, rfl, ?_⟩; have n0_ := Aside0.mk (blk_below (g := gb200) (o := .cells #[.int .i64 0, .int .i64 0, .int .i64 0, .int .i64 0, .int .i64 0, .int .i64 0, .int .i64 0, .int .i64 0, .int .i64 0, .int .i64 0, .int .i64 0, .int .i64 0] 24 (0, 0)) (by (with_reducible repeat (first | refine blk_drewN ?_ _ | refine blk_drew ?_ | refine blk_alloc ?_ _)); exact BK200.out) hb); have n1_ := Aside0.mk (blk_below (g := gb208) (o := .cells #[.int .i64 (wrap64 (rd l0 0)), .int .i64 (wrap64 (t203)), .int .i64 (wrap64 (t205)), .int .i64 (wrap64 (t207)), .int .i64 0, .int .i64 0, .int .i64 0, .int .i64 0, .int .i64 0, .int .i64 0, .int .i64 0, .int .i64 0] 24 (0, 0)) (by (with_reducible repeat (first | refine blk_drewN ?_ _ | refine blk_drew ?_ | refine blk_alloc ?_ _)); exact BK208.out) hb); have n2_ := Aside0.mk (blk_below (g := gb209) (o := .cells #[.int .i64 x210000_1, .int .i64 x210001_1, .int .i64 x210002_1, .int .i64 x210003_1, .int .i64 x210004_1, .int .i64 x210005_1, .int .i64 x210006_1, .int .i64 x210007_1] 49 (0, 0)) (by (with_reducible repeat (first | refine blk_drewN ?_ _ | refine blk_drew ?_ | refine blk_alloc ?_ _)); exact BK209.out) hb); have n3_ := Aside0.mk (below_step (by repeat (first | (with_reducible first | exact HB.out | apply below_alloc | apply pw_below_drewN | apply below_drew1 | refine below_set ?_ GE200.out | refine below_set ?_ GE208.out | refine below_set ?_ GE209.out) | exact HB.out)) hb); clear BK200; clear BK208; clear BK209; clear HB; have BK200 := n0_; have BK208 := n1_; have BK209 := n2_; have HB := n3_; clear n0_ n1_ n2_ n3_; (try clear hb); (try clear hb2); (try clear hk); (try clear hi); have hnb69 := NB209_200.out; have hnc69 := NB200_209.out; have hnb70 := NB209_208.out; have hnc70 := NB208_209.out; have q_ := cells8 BK209.out; have hcz71_0 := q_.c0; have hcz71_1 := q_.c1; have hcz71_2 := q_.c2; have hcz71_3 := q_.c3; have hcz71_4 := q_.c4; have hcz71_5 := q_.c5; have hcz71_6 := q_.c6; have hcz71_7 := q_.c7; have hfz71_0 := q_.f0; have hfz71_1 := q_.f1; have hfz71_2 := q_.f2; have hfz71_3 := q_.f3; have hfz71_4 := q_.f4; have hfz71_5 := q_.f5; have hfz71_6 := q_.f6; have hfz71_7 := q_.f7; clear q_))
                    go_roundg k1
                    case measure => have := HK1.out; omega
                    case rel => exact ⟨(wrap64 (x28_1 + 1)), (x210000_1), (x210001_1), (x210002_1), (x210003_1), (wrap64 (t211)), (x210005_1), (x210006_1), (x210007_1), (by first | rfl | (simp; done) | (simp [*]; done) | (have hz_ := c66z.out; congr 1; unfold wrap64; omega)), H', ⟨by have := HK1.out; omega⟩, ⟨by (with_reducible repeat (first | refine blk_drewN ?_ _ | refine blk_drew ?_ | refine blk_alloc ?_ _)); refine blk_far ?_ NB200_209.out _; (with_reducible repeat (first | refine blk_drewN ?_ _ | refine blk_drew ?_ | refine blk_alloc ?_ _)); exact BK200.out⟩, ⟨by (with_reducible repeat (first | refine blk_drewN ?_ _ | refine blk_drew ?_ | refine blk_alloc ?_ _)); refine blk_far ?_ NB208_209.out _; (with_reducible repeat (first | refine blk_drewN ?_ _ | refine blk_drew ?_ | refine blk_alloc ?_ _)); exact BK208.out⟩, ⟨by (with_reducible repeat (first | refine blk_drewN ?_ _ | refine blk_drew ?_ | refine blk_alloc ?_ _)); refine blk_put (cs := #[.int .i64 x210000_1, .int .i64 x210001_1, .int .i64 x210002_1, .int .i64 x210003_1, .int .i64 x210004_1, .int .i64 x210005_1, .int .i64 x210006_1, .int .i64 x210007_1]) ?_ 4 _ rfl; (with_reducible repeat (first | refine blk_drewN ?_ _ | refine blk_drew ?_ | refine blk_alloc ?_ _)); exact BK209.out⟩, ⟨by repeat (first | (with_reducible first | exact HB.out | apply below_alloc | apply pw_below_drewN | apply below_drew1 | refine below_set ?_ GE200.out | refine below_set ?_ GE208.out | refine below_set ?_ GE209.out) | exact HB.out)⟩⟩
                   ·rw [if_neg c66] at H
                    have c66b0 : (x28_1 == (4 : Int)) = false := beq_eq_false_iff_ne.mpr c66
                    have c66b1 : (x28_1 != (4 : Int)) = true := bne_iff_ne.mpr c66
                    by_cases c72 : x28_1 = (5 : Int)
                    ·rw [if_pos c72] at H
                     have c72z := Aside0.mk c72
                     (try (have c72i : ∀ (t_ : TypeId) (v_ : Value), Instr.index t_ v_ (.int .i64 x28_1) = Instr.index t_ v_ (.int .i64 5) := fun _ _ => by rw [c72]))
                     (try (have c72a : ∀ (t_ : TypeId) (v_ : Value), Instr.indexAt t_ v_ (.int .i64 x28_1) = Instr.indexAt t_ v_ (.int .i64 5) := fun _ _ => by rw [c72]))
                     (try (have c72j22 : ∀ (W_ : World) (v0_ v1_ v2_ v3_ v4_ v5_ : Value), (Instr.index 22 (.agg #[v0_, v1_, v2_, v3_, v4_, v5_]) (.int .i64 5)).run Try.prog W_ = .ok v5_ W_ := by intros; kernel_rfl))
                     (try (have c72j49 : ∀ (W_ : World) (v0_ v1_ v2_ v3_ v4_ v5_ v6_ v7_ : Value), (Instr.index 49 (.agg #[v0_, v1_, v2_, v3_, v4_, v5_, v6_, v7_]) (.int .i64 5)).run Try.prog W_ = .ok v5_ W_ := by intros; kernel_rfl))
                     have c72b0 : (x28_1 == (5 : Int)) = true := beq_iff_eq.mpr c72
                     have c72b1 : (x28_1 != (5 : Int)) = false := bne_eq_false_iff_eq.mpr c72
                     clear c72
                     have H' := Aside0.mk H
                     clear H
                     obtain ⟨i073, hi073, _, hsz73, _⟩ := info_parts info5
                     obtain ⟨A73, hcut73, hA73, hC73⟩ := print_mid_of (P := Try.prog) (Value.int .u8) 0 25 5 .i64 .i64 Try.underlying25 hi073 hsz73 (some ad201) c0 l0 (ji37) (wrap64 (16 + (wrap64 ((wrap64 (x28_1 + 1)) * 2)))) (of_decide_eq_true (by first | (with_reducible assumption) | assumption)) (by first | omega | exact of_decide_eq_true (by first | (with_reducible assumption) | assumption)) (of_decide_eq_true (by first | (with_reducible assumption) | assumption)) HC0.out
                     have HR210 := Aside0.mk (Kd.C_of_reads (h1 := fun _ => rfl) (hA73 _ (Kd.reads_of_C HR0.out)))
                     have HC210 := Aside0.mk hC73
                     clear hA73 hC73 hi073 hsz73
                     go_wp2_with (first | ((with_reducible refine gate_callee (f := 30) rfl ?_); refine goesL_ (some 41) rfl rfl Try.func30 (by kernel_rfl) rfl #[.slice A73 ((l0.take ((wrap64 (16 + (wrap64 ((wrap64 (x28_1 + 1)) * 2)))) : Int).toNat).drop ((ji37) : Int).toNat).length (c0 - (ji37).toNat)] rfl (by (try simp only [List.map_toArray, List.map_cons, List.map_nil]); first | done | (rw [show ((l0.take ((wrap64 (16 + (wrap64 ((wrap64 (x28_1 + 1)) * 2)))) : Int).toNat).drop ((ji37) : Int).toNat).length = ((wrap64 (16 + (wrap64 ((wrap64 (x28_1 + 1)) * 2)))).toNat - (ji37).toNat) from (by rw [List.length_drop, List.length_take]; have h_ : ((wrap64 (16 + (wrap64 ((wrap64 (x28_1 + 1)) * 2)))) : Int) ≤ (l0.length : Int) := of_decide_eq_true (by first | (with_reducible assumption) | assumption); omega)] <;> rfl) | (simp only [hji37]; rfl) | rfl | (simp only [List.length_drop, List.length_take]; rfl)) ?_; (with_reducible refine (num_Get.calls k1 _ _ ((l0.take ((wrap64 (16 + (wrap64 ((wrap64 (x28_1 + 1)) * 2)))) : Int).toNat).drop ((ji37) : Int).toNat) t211 _ ?side1 ?side2 A41.out).mono ?_); (case side1 => repeat (first | exact (Kd.C_below HR210.out HB.out) | (with_reducible refine Kd.C_alloc ?_ _) | (with_reducible refine Kd.C_drewN ?_ _) | (with_reducible refine Kd.C_drew ?_))); (case side2 => exact HC210.out); rintro e w74 ⟨rfl, hb⟩; refine ⟨_, rfl, ?_⟩; have n0_ := Aside0.mk (blk_below (g := gb200) (o := .cells #[.int .i64 0, .int .i64 0, .int .i64 0, .int .i64 0, .int .i64 0, .int .i64 0, .int .i64 0, .int .i64 0, .int .i64 0, .int .i64 0, .int .i64 0, .int .i64 0] 24 (0, 0)) (by (with_reducible repeat (first | refine blk_drewN ?_ _ | refine blk_drew ?_ | refine blk_alloc ?_ _)); exact BK200.out) hb); have n1_ := Aside0.mk (blk_below (g := gb208) (o := .cells #[.int .i64 (wrap64 (rd l0 0)), .int .i64 (wrap64 (t203)), .int .i64 (wrap64 (t205)), .int .i64 (wrap64 (t207)), .int .i64 0, .int .i64 0, .int .i64 0, .int .i64 0, .int .i64 0, .int .i64 0, .int .i64 0, .int .i64 0] 24 (0, 0)) (by (with_reducible repeat (first | refine blk_drewN ?_ _ | refine blk_drew ?_ | refine blk_alloc ?_ _)); exact BK208.out) hb); have n2_ := Aside0.mk (blk_below (g := gb209) (o := .cells #[.int .i64 x210000_1, .int .i64 x210001_1, .int .i64 x210002_1, .int .i64 x210003_1, .int .i64 x210004_1, .int .i64 x210005_1, .int .i64 x210006_1, .int .i64 x210007_1] 49 (0, 0)) (by (with_reducible repeat (first | refine blk_drewN ?_ _ | refine blk_drew ?_ | refine blk_alloc ?_ _)); exact BK209.out) hb); have n3_ := Aside0.mk (below_step (by repeat (first | (with_reducible first | exact HB.out | apply below_alloc | apply pw_below_drewN | apply below_drew1 | refine below_set ?_ GE200.out | refine below_set ?_ GE208.out | refine below_set ?_ GE209.out) | exact HB.out)) hb); clear BK200; clear BK208; clear BK209; clear HB; have BK200 := n0_; have BK208 := n1_; have BK209 := n2_; have HB := n3_; clear n0_ n1_ n2_ n3_; (try clear hb); (try clear hb2); (try clear hk); (try clear hi); have hnb75 := NB209_200.out; have hnc75 := NB200_209.out; have hnb76 := NB209_208.out; have hnc76 := NB208_209.out; have q_ := cells8 BK209.out; have hcz77_0 := q_.c0; have hcz77_1 := q_.c1; have hcz77_2 := q_.c2; have hcz77_3 := q_.c3; have hcz77_4 := q_.c4; have hcz77_5 := q_.c5; have hcz77_6 := q_.c6; have hcz77_7 := q_.c7; have hfz77_0 := q_.f0; have hfz77_1 := q_.f1; have hfz77_2 := q_.f2; have hfz77_3 := q_.f3; have hfz77_4 := q_.f4; have hfz77_5 := q_.f5; have hfz77_6 := q_.f6; have hfz77_7 := q_.f7; clear q_))
                     go_roundg k1
                     case measure => have := HK1.out; omega
                     case rel => exact ⟨(wrap64 (x28_1 + 1)), (x210000_1), (x210001_1), (x210002_1), (x210003_1), (x210004_1), (wrap64 (t211)), (x210006_1), (x210007_1), (by first | rfl | (simp; done) | (simp [*]; done) | (have hz_ := c72z.out; congr 1; unfold wrap64; omega)), H', ⟨by have := HK1.out; omega⟩, ⟨by (with_reducible repeat (first | refine blk_drewN ?_ _ | refine blk_drew ?_ | refine blk_alloc ?_ _)); refine blk_far ?_ NB200_209.out _; (with_reducible repeat (first | refine blk_drewN ?_ _ | refine blk_drew ?_ | refine blk_alloc ?_ _)); exact BK200.out⟩, ⟨by (with_reducible repeat (first | refine blk_drewN ?_ _ | refine blk_drew ?_ | refine blk_alloc ?_ _)); refine blk_far ?_ NB208_209.out _; (with_reducible repeat (first | refine blk_drewN ?_ _ | refine blk_drew ?_ | refine blk_alloc ?_ _)); exact BK208.out⟩, ⟨by (with_reducible repeat (first | refine blk_drewN ?_ _ | refine blk_drew ?_ | refine blk_alloc ?_ _)); refine blk_put (cs := #[.int .i64 x210000_1, .int .i64 x210001_1, .int .i64 x210002_1, .int .i64 x210003_1, .int .i64 x210004_1, .int .i64 x210005_1, .int .i64 x210006_1, .int .i64 x210007_1]) ?_ 5 _ rfl; (with_reducible repeat (first | refine blk_drewN ?_ _ | refine blk_drew ?_ | refine blk_alloc ?_ _)); exact BK209.out⟩, ⟨by repeat (first | (with_reducible first | exact HB.out | apply below_alloc | apply pw_below_drewN | apply below_drew1 | refine below_set ?_ GE200.out | refine below_set ?_ GE208.out | refine below_set ?_ GE209.out) | exact HB.out)⟩⟩
                    ·rw [if_neg c72] at H
                     have c72b0 : (x28_1 == (5 : Int)) = false := beq_eq_false_iff_ne.mpr c72
                     have c72b1 : (x28_1 != (5 : Int)) = true := bne_iff_ne.mpr c72
                     by_cases c78 : x28_1 = (6 : Int)
                     ·rw [if_pos c78] at H
                      have c78z := Aside0.mk c78
                      (try (have c78i : ∀ (t_ : TypeId) (v_ : Value), Instr.index t_ v_ (.int .i64 x28_1) = Instr.index t_ v_ (.int .i64 6) := fun _ _ => by rw [c78]))
                      (try (have c78a : ∀ (t_ : TypeId) (v_ : Value), Instr.indexAt t_ v_ (.int .i64 x28_1) = Instr.indexAt t_ v_ (.int .i64 6) := fun _ _ => by rw [c78]))
                      (try (have c78j49 : ∀ (W_ : World) (v0_ v1_ v2_ v3_ v4_ v5_ v6_ v7_ : Value), (Instr.index 49 (.agg #[v0_, v1_, v2_, v3_, v4_, v5_, v6_, v7_]) (.int .i64 6)).run Try.prog W_ = .ok v6_ W_ := by intros; kernel_rfl))
                      have c78b0 : (x28_1 == (6 : Int)) = true := beq_iff_eq.mpr c78
                      have c78b1 : (x28_1 != (6 : Int)) = false := bne_eq_false_iff_eq.mpr c78
                      clear c78
                      have H' := Aside0.mk H
                      clear H
                      obtain ⟨i079, hi079, _, hsz79, _⟩ := info_parts info5
                      obtain ⟨A79, hcut79, hA79, hC79⟩ := print_mid_of (P := Try.prog) (Value.int .u8) 0 25 5 .i64 .i64 Try.underlying25 hi079 hsz79 (some ad201) c0 l0 (ji37) (wrap64 (16 + (wrap64 ((wrap64 (x28_1 + 1)) * 2)))) (of_decide_eq_true (by first | (with_reducible assumption) | assumption)) (by first | omega | exact of_decide_eq_true (by first | (with_reducible assumption) | assumption)) (of_decide_eq_true (by first | (with_reducible assumption) | assumption)) HC0.out
                      have HR210 := Aside0.mk (Kd.C_of_reads (h1 := fun _ => rfl) (hA79 _ (Kd.reads_of_C HR0.out)))
                      have HC210 := Aside0.mk hC79
                      clear hA79 hC79 hi079 hsz79
                      go_wp2_with (first | ((with_reducible refine gate_callee (f := 30) rfl ?_); refine goesL_ (some 41) rfl rfl Try.func30 (by kernel_rfl) rfl #[.slice A79 ((l0.take ((wrap64 (16 + (wrap64 ((wrap64 (x28_1 + 1)) * 2)))) : Int).toNat).drop ((ji37) : Int).toNat).length (c0 - (ji37).toNat)] rfl (by (try simp only [List.map_toArray, List.map_cons, List.map_nil]); first | done | (rw [show ((l0.take ((wrap64 (16 + (wrap64 ((wrap64 (x28_1 + 1)) * 2)))) : Int).toNat).drop ((ji37) : Int).toNat).length = ((wrap64 (16 + (wrap64 ((wrap64 (x28_1 + 1)) * 2)))).toNat - (ji37).toNat) from (by rw [List.length_drop, List.length_take]; have h_ : ((wrap64 (16 + (wrap64 ((wrap64 (x28_1 + 1)) * 2)))) : Int) ≤ (l0.length : Int) := of_decide_eq_true (by first | (with_reducible assumption) | assumption); omega)] <;> rfl) | (simp only [hji37]; rfl) | rfl | (simp only [List.length_drop, List.length_take]; rfl)) ?_; (with_reducible refine (num_Get.calls k1 _ _ ((l0.take ((wrap64 (16 + (wrap64 ((wrap64 (x28_1 + 1)) * 2)))) : Int).toNat).drop ((ji37) : Int).toNat) t211 _ ?side1 ?side2 A41.out).mono ?_); (case side1 => repeat (first | exact (Kd.C_below HR210.out HB.out) | (with_reducible refine Kd.C_alloc ?_ _) | (with_reducible refine Kd.C_drewN ?_ _) | (with_reducible refine Kd.C_drew ?_))); (case side2 => exact HC210.out); rintro e w80 ⟨rfl, hb⟩; refine ⟨_, rfl, ?_⟩; have n0_ := Aside0.mk (blk_below (g := gb200) (o := .cells #[.int .i64 0, .int .i64 0, .int .i64 0, .int .i64 0, .int .i64 0, .int .i64 0, .int .i64 0, .int .i64 0, .int .i64 0, .int .i64 0, .int .i64 0, .int .i64 0] 24 (0, 0)) (by (with_reducible repeat (first | refine blk_drewN ?_ _ | refine blk_drew ?_ | refine blk_alloc ?_ _)); exact BK200.out) hb); have n1_ := Aside0.mk (blk_below (g := gb208) (o := .cells #[.int .i64 (wrap64 (rd l0 0)), .int .i64 (wrap64 (t203)), .int .i64 (wrap64 (t205)), .int .i64 (wrap64 (t207)), .int .i64 0, .int .i64 0, .int .i64 0, .int .i64 0, .int .i64 0, .int .i64 0, .int .i64 0, .int .i64 0] 24 (0, 0)) (by (with_reducible repeat (first | refine blk_drewN ?_ _ | refine blk_drew ?_ | refine blk_alloc ?_ _)); exact BK208.out) hb); have n2_ := Aside0.mk (blk_below (g := gb209) (o := .cells #[.int .i64 x210000_1, .int .i64 x210001_1, .int .i64 x210002_1, .int .i64 x210003_1, .int .i64 x210004_1, .int .i64 x210005_1, .int .i64 x210006_1, .int .i64 x210007_1] 49 (0, 0)) (by (with_reducible repeat (first | refine blk_drewN ?_ _ | refine blk_drew ?_ | refine blk_alloc ?_ _)); exact BK209.out) hb); have n3_ := Aside0.mk (below_step (by repeat (first | (with_reducible first | exact HB.out | apply below_alloc | apply pw_below_drewN | apply below_drew1 | refine below_set ?_ GE200.out | refine below_set ?_ GE208.out | refine below_set ?_ GE209.out) | exact HB.out)) hb); clear BK200; clear BK208; clear BK209; clear HB; have BK200 := n0_; have BK208 := n1_; have BK209 := n2_; have HB := n3_; clear n0_ n1_ n2_ n3_; (try clear hb); (try clear hb2); (try clear hk); (try clear hi); have hnb81 := NB209_200.out; have hnc81 := NB200_209.out; have hnb82 := NB209_208.out; have hnc82 := NB208_209.out; have q_ := cells8 BK209.out; have hcz83_0 := q_.c0; have hcz83_1 := q_.c1; have hcz83_2 := q_.c2; have hcz83_3 := q_.c3; have hcz83_4 := q_.c4; have hcz83_5 := q_.c5; have hcz83_6 := q_.c6; have hcz83_7 := q_.c7; have hfz83_0 := q_.f0; have hfz83_1 := q_.f1; have hfz83_2 := q_.f2; have hfz83_3 := q_.f3; have hfz83_4 := q_.f4; have hfz83_5 := q_.f5; have hfz83_6 := q_.f6; have hfz83_7 := q_.f7; clear q_))
                      go_roundg k1
                      case measure => have := HK1.out; omega
                      case rel => exact ⟨(wrap64 (x28_1 + 1)), (x210000_1), (x210001_1), (x210002_1), (x210003_1), (x210004_1), (x210005_1), (wrap64 (t211)), (x210007_1), (by first | rfl | (simp; done) | (simp [*]; done) | (have hz_ := c78z.out; congr 1; unfold wrap64; omega)), H', ⟨by have := HK1.out; omega⟩, ⟨by (with_reducible repeat (first | refine blk_drewN ?_ _ | refine blk_drew ?_ | refine blk_alloc ?_ _)); refine blk_far ?_ NB200_209.out _; (with_reducible repeat (first | refine blk_drewN ?_ _ | refine blk_drew ?_ | refine blk_alloc ?_ _)); exact BK200.out⟩, ⟨by (with_reducible repeat (first | refine blk_drewN ?_ _ | refine blk_drew ?_ | refine blk_alloc ?_ _)); refine blk_far ?_ NB208_209.out _; (with_reducible repeat (first | refine blk_drewN ?_ _ | refine blk_drew ?_ | refine blk_alloc ?_ _)); exact BK208.out⟩, ⟨by (with_reducible repeat (first | refine blk_drewN ?_ _ | refine blk_drew ?_ | refine blk_alloc ?_ _)); refine blk_put (cs := #[.int .i64 x210000_1, .int .i64 x210001_1, .int .i64 x210002_1, .int .i64 x210003_1, .int .i64 x210004_1, .int .i64 x210005_1, .int .i64 x210006_1, .int .i64 x210007_1]) ?_ 6 _ rfl; (with_reducible repeat (first | refine blk_drewN ?_ _ | refine blk_drew ?_ | refine blk_alloc ?_ _)); exact BK209.out⟩, ⟨by repeat (first | (with_reducible first | exact HB.out | apply below_alloc | apply pw_below_drewN | apply below_drew1 | refine below_set ?_ GE200.out | refine below_set ?_ GE208.out | refine below_set ?_ GE209.out) | exact HB.out)⟩⟩
                     ·rw [if_neg c78] at H
                      have c78b0 : (x28_1 == (6 : Int)) = false := beq_eq_false_iff_ne.mpr c78
                      have c78b1 : (x28_1 != (6 : Int)) = true := bne_iff_ne.mpr c78
                      by_cases c84 : x28_1 = (7 : Int)
                      ·rw [if_pos c84] at H
                       have c84z := Aside0.mk c84
                       (try (have c84i : ∀ (t_ : TypeId) (v_ : Value), Instr.index t_ v_ (.int .i64 x28_1) = Instr.index t_ v_ (.int .i64 7) := fun _ _ => by rw [c84]))
                       (try (have c84a : ∀ (t_ : TypeId) (v_ : Value), Instr.indexAt t_ v_ (.int .i64 x28_1) = Instr.indexAt t_ v_ (.int .i64 7) := fun _ _ => by rw [c84]))
                       (try (have c84j49 : ∀ (W_ : World) (v0_ v1_ v2_ v3_ v4_ v5_ v6_ v7_ : Value), (Instr.index 49 (.agg #[v0_, v1_, v2_, v3_, v4_, v5_, v6_, v7_]) (.int .i64 7)).run Try.prog W_ = .ok v7_ W_ := by intros; kernel_rfl))
                       have c84b0 : (x28_1 == (7 : Int)) = true := beq_iff_eq.mpr c84
                       have c84b1 : (x28_1 != (7 : Int)) = false := bne_eq_false_iff_eq.mpr c84
                       clear c84
                       have H' := Aside0.mk H
                       clear H
                       obtain ⟨i085, hi085, _, hsz85, _⟩ := info_parts info5
                       obtain ⟨A85, hcut85, hA85, hC85⟩ := print_mid_of (P := Try.prog) (Value.int .u8) 0 25 5 .i64 .i64 Try.underlying25 hi085 hsz85 (some ad201) c0 l0 (ji37) (wrap64 (16 + (wrap64 ((wrap64 (x28_1 + 1)) * 2)))) (of_decide_eq_true (by first | (with_reducible assumption) | assumption)) (by first | omega | exact of_decide_eq_true (by first | (with_reducible assumption) | assumption)) (of_decide_eq_true (by first | (with_reducible assumption) | assumption)) HC0.out
                       have HR210 := Aside0.mk (Kd.C_of_reads (h1 := fun _ => rfl) (hA85 _ (Kd.reads_of_C HR0.out)))
                       have HC210 := Aside0.mk hC85
                       clear hA85 hC85 hi085 hsz85
                       go_wp2_with (first | ((with_reducible refine gate_callee (f := 30) rfl ?_); refine goesL_ (some 41) rfl rfl Try.func30 (by kernel_rfl) rfl #[.slice A85 ((l0.take ((wrap64 (16 + (wrap64 ((wrap64 (x28_1 + 1)) * 2)))) : Int).toNat).drop ((ji37) : Int).toNat).length (c0 - (ji37).toNat)] rfl (by (try simp only [List.map_toArray, List.map_cons, List.map_nil]); first | done | (rw [show ((l0.take ((wrap64 (16 + (wrap64 ((wrap64 (x28_1 + 1)) * 2)))) : Int).toNat).drop ((ji37) : Int).toNat).length = ((wrap64 (16 + (wrap64 ((wrap64 (x28_1 + 1)) * 2)))).toNat - (ji37).toNat) from (by rw [List.length_drop, List.length_take]; have h_ : ((wrap64 (16 + (wrap64 ((wrap64 (x28_1 + 1)) * 2)))) : Int) ≤ (l0.length : Int) := of_decide_eq_true (by first | (with_reducible assumption) | assumption); omega)] <;> rfl) | (simp only [hji37]; rfl) | rfl | (simp only [List.length_drop, List.length_take]; rfl)) ?_; (with_reducible refine (num_Get.calls k1 _ _ ((l0.take ((wrap64 (16 + (wrap64 ((wrap64 (x28_1 + 1)) * 2)))) : Int).toNat).drop ((ji37) : Int).toNat) t211 _ ?side1 ?side2 A41.out).mono ?_); (case side1 => repeat (first | exact (Kd.C_below HR210.out HB.out) | (with_reducible refine Kd.C_alloc ?_ _) | (with_reducible refine Kd.C_drewN ?_ _) | (with_reducible refine Kd.C_drew ?_))); (case side2 => exact HC210.out); rintro e w86 ⟨rfl, hb⟩; refine ⟨_, rfl, ?_⟩; have n0_ := Aside0.mk (blk_below (g := gb200) (o := .cells #[.int .i64 0, .int .i64 0, .int .i64 0, .int .i64 0, .int .i64 0, .int .i64 0, .int .i64 0, .int .i64 0, .int .i64 0, .int .i64 0, .int .i64 0, .int .i64 0] 24 (0, 0)) (by (with_reducible repeat (first | refine blk_drewN ?_ _ | refine blk_drew ?_ | refine blk_alloc ?_ _)); exact BK200.out) hb); have n1_ := Aside0.mk (blk_below (g := gb208) (o := .cells #[.int .i64 (wrap64 (rd l0 0)), .int .i64 (wrap64 (t203)), .int .i64 (wrap64 (t205)), .int .i64 (wrap64 (t207)), .int .i64 0, .int .i64 0, .int .i64 0, .int .i64 0, .int .i64 0, .int .i64 0, .int .i64 0, .int .i64 0] 24 (0, 0)) (by (with_reducible repeat (first | refine blk_drewN ?_ _ | refine blk_drew ?_ | refine blk_alloc ?_ _)); exact BK208.out) hb); have n2_ := Aside0.mk (blk_below (g := gb209) (o := .cells #[.int .i64 x210000_1, .int .i64 x210001_1, .int .i64 x210002_1, .int .i64 x210003_1, .int .i64 x210004_1, .int .i64 x210005_1, .int .i64 x210006_1, .int .i64 x210007_1] 49 (0, 0)) (by (with_reducible repeat (first | refine blk_drewN ?_ _ | refine blk_drew ?_ | refine blk_alloc ?_ _)); exact BK209.out) hb); have n3_ := Aside0.mk (below_step (by repeat (first | (with_reducible first | exact HB.out | apply below_alloc | apply pw_below_drewN | apply below_drew1 | refine below_set ?_ GE200.out | refine below_set ?_ GE208.out | refine below_set ?_ GE209.out) | exact HB.out)) hb); clear BK200; clear BK208; clear BK209; clear HB; have BK200 := n0_; have BK208 := n1_; have BK209 := n2_; have HB := n3_; clear n0_ n1_ n2_ n3_; (try clear hb); (try clear hb2); (try clear hk); (try clear hi); have hnb87 := NB209_200.out; have hnc87 := NB200_209.out; have hnb88 := NB209_208.out; have hnc88 := NB208_209.out; have q_ := cells8 BK209.out; have hcz89_0 := q_.c0; have hcz89_1 := q_.c1; have hcz89_2 := q_.c2; have hcz89_3 := q_.c3; have hcz89_4 := q_.c4; have hcz89_5 := q_.c5; have hcz89_6 := q_.c6; have hcz89_7 := q_.c7; have hfz89_0 := q_.f0; have hfz89_1 := q_.f1; have hfz89_2 := q_.f2; have hfz89_3 := q_.f3; have hfz89_4 := q_.f4; have hfz89_5 := q_.f5; have hfz89_6 := q_.f6; have hfz89_7 := q_.f7; clear q_))
                       go_roundg k1
                       case measure => have := HK1.out; omega
                       case rel => exact ⟨(wrap64 (x28_1 + 1)), (x210000_1), (x210001_1), (x210002_1), (x210003_1), (x210004_1), (x210005_1), (x210006_1), (wrap64 (t211)), (by first | rfl | (simp; done) | (simp [*]; done) | (have hz_ := c84z.out; congr 1; unfold wrap64; omega)), H', ⟨by have := HK1.out; omega⟩, ⟨by (with_reducible repeat (first | refine blk_drewN ?_ _ | refine blk_drew ?_ | refine blk_alloc ?_ _)); refine blk_far ?_ NB200_209.out _; (with_reducible repeat (first | refine blk_drewN ?_ _ | refine blk_drew ?_ | refine blk_alloc ?_ _)); exact BK200.out⟩, ⟨by (with_reducible repeat (first | refine blk_drewN ?_ _ | refine blk_drew ?_ | refine blk_alloc ?_ _)); refine blk_far ?_ NB208_209.out _; (with_reducible repeat (first | refine blk_drewN ?_ _ | refine blk_drew ?_ | refine blk_alloc ?_ _)); exact BK208.out⟩, ⟨by (with_reducible repeat (first | refine blk_drewN ?_ _ | refine blk_drew ?_ | refine blk_alloc ?_ _)); refine blk_put (cs := #[.int .i64 x210000_1, .int .i64 x210001_1, .int .i64 x210002_1, .int .i64 x210003_1, .int .i64 x210004_1, .int .i64 x210005_1, .int .i64 x210006_1, .int .i64 x210007_1]) ?_ 7 _ rfl; (with_reducible repeat (first | refine blk_drewN ?_ _ | refine blk_drew ?_ | refine blk_alloc ?_ _)); exact BK209.out⟩, ⟨by repeat (first | (with_reducible first | exact HB.out | apply below_alloc | apply pw_below_drewN | apply below_drew1 | refine below_set ?_ GE200.out | refine below_set ?_ GE208.out | refine below_set ?_ GE209.out) | exact HB.out)⟩⟩
                      ·rw [if_neg c84] at H
                       exact absurd H (by simp)
              ·rw [if_neg c40] at H
               exact absurd H (by simp)
             ·rw [if_neg c39] at H
              exact absurd H (by simp)
            ·rw [if_neg c38] at H
             exact absurd H (by simp)
           ·rw [if_neg c36] at H
            have c36b0 : decide (x28_1 < 8) = false := decide_eq_false c36
            clear c36
            replace H := Option.bind_eq_some_iff.mp H
            obtain ⟨⟨t212, t213, t214, t215, t216, t217, t218, t219⟩, A900, H⟩ := H
            replace H : (if 1 < (l0.length : Int) then (if (rd l0 1) = 0 then (if 32 ≤ (l0.length : Int) then ((num_Zero.f k1 (l0.drop 32)).bind fun t222 => (if t222 = true then ((inode_Right.f k1 (wrap64 (rd l0 0)) (wrap64 (t203)) (wrap64 (t205)) (wrap64 (t207)) x210000_1 x210001_1 x210002_1 x210003_1 x210004_1 x210005_1 x210006_1 x210007_1).bind fun t223 => (if t223 = true then (some ((wrap64 (rd l0 0)), (wrap64 (t203)), (wrap64 (t205)), (wrap64 (t207)), x210000_1, x210001_1, x210002_1, x210003_1, x210004_1, x210005_1, x210006_1, x210007_1, 0)) else (some (0, 0, 0, 0, 0, 0, 0, 0, 0, 0, 0, 0, 8)))) else (some (0, 0, 0, 0, 0, 0, 0, 0, 0, 0, 0, 0, 8)))) else (none)) else (some (0, 0, 0, 0, 0, 0, 0, 0, 0, 0, 0, 0, 8))) else (none)) = some (r1, r2, r3, r4, r5, r6, r7, r8, r9, r10, r11, r12, r13) := H
            have A90 := Aside0.mk A900
            clear A900
            by_cases c91 : 1 < (l0.length : Int)
            ·rw [if_pos c91] at H
             have c91b0 : decide (1 < (l0.length : Int)) = true := decide_eq_true c91
             have c91b1 : decide (1 < l0.length) = true := decide_eq_true (by omega)
             clear c91
             by_cases c92 : (rd l0 1) = 0
             ·rw [if_pos c92] at H
              have c92b0 : ((rd l0 1) == 0) = true := beq_iff_eq.mpr c92
              have c92b1 : ((rd l0 1) != 0) = false := bne_eq_false_iff_eq.mpr c92
              clear c92
              by_cases c93 : 32 ≤ (l0.length : Int)
              ·rw [if_pos c93] at H
               have c93b0 := eq_true c93
               have c93b1 : decide (32 ≤ (l0.length : Int)) = true := decide_eq_true c93
               clear c93
               replace H := Option.bind_eq_some_iff.mp H
               obtain ⟨t222, A940, H⟩ := H
               replace H : (if t222 = true then ((inode_Right.f k1 (wrap64 (rd l0 0)) (wrap64 (t203)) (wrap64 (t205)) (wrap64 (t207)) x210000_1 x210001_1 x210002_1 x210003_1 x210004_1 x210005_1 x210006_1 x210007_1).bind fun t223 => (if t223 = true then (some ((wrap64 (rd l0 0)), (wrap64 (t203)), (wrap64 (t205)), (wrap64 (t207)), x210000_1, x210001_1, x210002_1, x210003_1, x210004_1, x210005_1, x210006_1, x210007_1, 0)) else (some (0, 0, 0, 0, 0, 0, 0, 0, 0, 0, 0, 0, 8)))) else (some (0, 0, 0, 0, 0, 0, 0, 0, 0, 0, 0, 0, 8))) = some (r1, r2, r3, r4, r5, r6, r7, r8, r9, r10, r11, r12, r13) := H
               have A94 := Aside0.mk A940
               clear A940
               by_cases c95 : t222 = true
               ·subst c95
                have H1 : ((inode_Right.f k1 (wrap64 (rd l0 0)) (wrap64 (t203)) (wrap64 (t205)) (wrap64 (t207)) x210000_1 x210001_1 x210002_1 x210003_1 x210004_1 x210005_1 x210006_1 x210007_1).bind fun t223 => (if t223 = true then (some ((wrap64 (rd l0 0)), (wrap64 (t203)), (wrap64 (t205)), (wrap64 (t207)), x210000_1, x210001_1, x210002_1, x210003_1, x210004_1, x210005_1, x210006_1, x210007_1, 0)) else (some (0, 0, 0, 0, 0, 0, 0, 0, 0, 0, 0, 0, 8)))) = some (r1, r2, r3, r4, r5, r6, r7, r8, r9, r10, r11, r12, r13) := by rw [if_pos rfl] at H; exact H
                clear H
                have H := H1
                clear H1
                replace H := Option.bind_eq_some_iff.mp H
                obtain ⟨t223, A960, H⟩ := H
                replace H : (if t223 = true then (some ((wrap64 (rd l0 0)), (wrap64 (t203)), (wrap64 (t205)), (wrap64 (t207)), x210000_1, x210001_1, x210002_1, x210003_1, x210004_1, x210005_1, x210006_1, x210007_1, 0)) else (some (0, 0, 0, 0, 0, 0, 0, 0, 0, 0, 0, 0, 8))) = some (r1, r2, r3, r4, r5, r6, r7, r8, r9, r10, r11, r12, r13) := H
                have A96 := Aside0.mk A960
                clear A960
                by_cases c97 : t223 = true
                ·subst c97
                 have H1 : (some ((wrap64 (rd l0 0)), (wrap64 (t203)), (wrap64 (t205)), (wrap64 (t207)), x210000_1, x210001_1, x210002_1, x210003_1, x210004_1, x210005_1, x210006_1, x210007_1, 0)) = some (r1, r2, r3, r4, r5, r6, r7, r8, r9, r10, r11, r12, r13) := by rw [if_pos rfl] at H; exact H
                 clear H
                 have H := H1
                 clear H1
                 simp only [Option.some.injEq, Prod.mk.injEq] at H
                 obtain ⟨rfl, rfl, rfl, rfl, rfl, rfl, rfl, rfl, rfl, rfl, rfl, rfl, rfl⟩ := H
                 have hnb98 := NB209_200.out
                 have hnc98 := NB200_209.out
                 have hnb99 := NB209_208.out
                 have hnc99 := NB208_209.out
                 go_wp2
                 refine wp_region_still_tail 3 (by kernel_rfl) (by kernel_rfl) ?_
                 change wpStill _ _ wr.drew (fun a' => wpList _ _ _ _ a' wr.drew) _ _
                 obtain ⟨wd, hwd⟩ : ∃ v, v = wr.drew := ⟨_, rfl⟩
                 have x200 := blk_drew BK200.out
                 have x208 := blk_drew BK208.out
                 have x209 := blk_drew BK209.out
                 have xb := below_drew HB.out
                 rw [← hwd] at x200 x208 x209 xb ⊢
                 clear hwd
                 have X200 := Aside0.mk x200
                 have X208 := Aside0.mk x208
                 have X209 := Aside0.mk x209
                 have XB := Aside0.mk xb
                 clear x200 x208 x209 xb
                 simp only [List.take_succ_cons, List.take_zero, List.drop_succ_cons, List.drop_zero]
                 iterate 3 still_step
                 refine wpStill_nil ?_
                 refine copy_far rfl (.tmp 46) (.tmp 47) 44 44 rfl 3 Try.underlying44 hsz3_ (some ⟨gb208, 4, none⟩) (some ⟨gb209, 0, none⟩) 6 6 8 8 rfl rfl gb208 4 [.int .i64 (wrap64 (rd l0 0)), .int .i64 (wrap64 (t203)), .int .i64 (wrap64 (t205)), .int .i64 (wrap64 (t207)), .int .i64 0, .int .i64 0, .int .i64 0, .int .i64 0, .int .i64 0, .int .i64 0, .int .i64 0, .int .i64 0] 24 X208.out [.int .i64 x210000_1, .int .i64 x210001_1, .int .i64 x210002_1, .int .i64 x210003_1, .int .i64 x210004_1, .int .i64 x210005_1] rfl (by simp) ?hpos (by simp) ?h1 w.heap.size w XB.out GE208.out ?_
                 rotate_right
                 intro w103 hz208 hzo hzb
                 have n0_ := Aside0.mk ((hzo gb200 NB200_208.out).trans X200.out)
                 have n2_ := Aside0.mk ((hzo gb209 NB209_208.out).trans X209.out)
                 have n1_ : Aside0 (w103.heap[gb208]? = some (.cells #[.int .i64 (wrap64 (rd l0 0)), .int .i64 (wrap64 (t203)), .int .i64 (wrap64 (t205)), .int .i64 (wrap64 (t207)), .int .i64 x210000_1, .int .i64 x210001_1, .int .i64 x210002_1, .int .i64 x210003_1, .int .i64 x210004_1, .int .i64 x210005_1, .int .i64 0, .int .i64 0] 24 (0, 0))) := ⟨hz208⟩
                 have n3_ := Aside0.mk hzb
                 clear hzo hz208 hzb X200 X208 X209 XB
                 case hpos =>
                  intro _
                  refine ⟨rfl, _, rfl, fun j v hj => ?_⟩
                  have h12 := blk_cell X209.out j
                  rw [show (⟨gb209, 0, none⟩ : Addr).add j = ⟨gb209, j, none⟩ from by (unfold Addr.add; split; simp_all; simp)]
                  refine h12.trans ?_
                  clear h12
                  rcases j with _ | _ | _ | _ | _ | _ | j
                  ·exact hj
                  ·exact hj
                  ·exact hj
                  ·exact hj
                  ·exact hj
                  ·exact hj
                  ·cases hj
                 case h1 => intro v hv; simp at hv; rcases hv with rfl | rfl | rfl | rfl | rfl | rfl <;> rfl
                 clear BK200
                 clear BK208
                 clear BK209
                 clear HB
                 have BK200 := n0_
                 have BK208 := n1_
                 have BK209 := n2_
                 have HB := n3_
                 clear n0_ n1_ n2_ n3_
                 (try clear hb)
                 (try clear hb2)
                 (try clear hk)
                 (try clear hi)
                 have q_ := cells8 BK209.out; have hcz104_0 := q_.c0; have hcz104_1 := q_.c1; have hcz104_2 := q_.c2; have hcz104_3 := q_.c3; have hcz104_4 := q_.c4; have hcz104_5 := q_.c5; have hcz104_6 := q_.c6; have hcz104_7 := q_.c7; have hfz104_0 := q_.f0; have hfz104_1 := q_.f1; have hfz104_2 := q_.f2; have hfz104_3 := q_.f3; have hfz104_4 := q_.f4; have hfz104_5 := q_.f5; have hfz104_6 := q_.f6; have hfz104_7 := q_.f7; clear q_
                 have q_ := cells12 BK208.out; have hcz105_0 := q_.c0; have hcz105_1 := q_.c1; have hcz105_2 := q_.c2; have hcz105_3 := q_.c3; have hcz105_4 := q_.c4; have hcz105_5 := q_.c5; have hcz105_6 := q_.c6; have hcz105_7 := q_.c7; have hcz105_8 := q_.c8; have hcz105_9 := q_.c9; have hcz105_10 := q_.c10; have hcz105_11 := q_.c11; have hfz105_0 := q_.f0; have hfz105_1 := q_.f1; have hfz105_2 := q_.f2; have hfz105_3 := q_.f3; have hfz105_4 := q_.f4; have hfz105_5 := q_.f5; have hfz105_6 := q_.f6; have hfz105_7 := q_.f7; have hfz105_8 := q_.f8; have hfz105_9 := q_.f9; have hfz105_10 := q_.f10; have hfz105_11 := q_.f11; clear q_
                 have p220 : 0 ≤ (1 : Int) := (by omega)
                 have q220 : 1 < (l0.length : Int) := of_decide_eq_true (by first | (with_reducible assumption) | assumption)
                 obtain ⟨ad220, e220, hx220_0⟩ := Kd.at_int HR0.out 1 p220 q220
                 obtain rfl : ad201 = ad220 := (by injection e220)
                 (try simp only [show (1 : Int).toNat = 1 from rfl, Nat.reduceMul, Nat.reduceEqDiff, Go.Addr.add, ↓reduceIte] at hx220_0)
                 have qi220 : (1 < l0.length) = True := eq_true (by omega)
                 (try rw [show ((1 : Int)).toNat = 1 from rfl] at hx220_0)
                 have hn220_0 : ad201.block ≠ gb208 := Nat.ne_of_lt (Nat.lt_of_lt_of_le (by have := World.block_lt_of_cell? _ _ hx220_0; first | rwa [add_block] at this | exact this) GW208.out)
                 have hn220_1 : ad201.block ≠ gb208 := Nat.ne_of_lt (Nat.lt_of_lt_of_le (by have := World.block_lt_of_cell? _ _ hx220_0; first | rwa [add_block] at this | exact this) GW208.out)
                 replace hx220_0 := (HB.out.cell (World.block_lt_of_cell? w _ hx220_0)).trans hx220_0
                 replace hx220_0 := (cell_far (p := ⟨gb208, 10, none⟩) (by first | (rw [add_block]; exact hn220_0) | (show (Addr.add _ _).block ≠ _; rw [add_block]; exact hn220_0) | exact hn220_0) (.int .i64 x210006_1)).trans hx220_0
                 replace hx220_0 := (cell_far (p := ⟨gb208, 11, none⟩) (by first | (rw [add_block]; exact hn220_1) | (show (Addr.add _ _).block ≠ _; rw [add_block]; exact hn220_1) | exact hn220_1) (.int .i64 x210007_1)).trans hx220_0
                 clear hn220_0
                 clear hn220_1
                 replace p220 := eq_true p220
                 replace q220 := eq_true q220
                 obtain ⟨i0106, hi0106, _, hsz106, _⟩ := info_parts info5
                 obtain ⟨A106, hcut106, hA106, hC106⟩ := print_drop_of (P := Try.prog) (Value.int .u8) 0 25 5 .i64 Try.underlying25 hi0106 hsz106 (some ad201) c0 l0 32 (by omega) (of_decide_eq_true (by first | (with_reducible assumption) | assumption)) HC0.out
                 have HR221 := Aside0.mk (Kd.C_of_reads (h1 := fun _ => rfl) (hA106 _ (Kd.reads_of_C HR0.out)))
                 have HC221 := Aside0.mk hC106
                 clear hA106 hC106 hi0106 hsz106
                 go_wp2_with (first | (go_at_call 31; rw [← List.length_drop (l := l0) (i := 32)]; (with_reducible refine (num_Zero.calls k1 _ _ (l0.drop 32) true _ ?side1 ?side2 A94.out).mono ?_); (case side1 => exact Kd.C_below HR221.out (by repeat (first | (with_reducible first | exact HB.out | apply below_alloc | apply pw_below_drewN | apply below_drew1 | refine below_set ?_ GE200.out | refine below_set ?_ GE208.out | refine below_set ?_ GE209.out) | exact HB.out))); (case side2 => exact HC221.out); rintro e w' ⟨rfl, ⟨nd, rfl⟩⟩) | (go_at_call 11; (with_reducible refine (inode_Right.calls k1 (wrap64 (rd l0 0)) (wrap64 (t203)) (wrap64 (t205)) (wrap64 (t207)) x210000_1 x210001_1 x210002_1 x210003_1 x210004_1 x210005_1 x210006_1 x210007_1 true _ A96.out).mono ?_); rintro e w107 ⟨rfl, hb⟩; have n0_ := Aside0.mk (blk_below (g := gb200) (o := .cells #[.int .i64 0, .int .i64 0, .int .i64 0, .int .i64 0, .int .i64 0, .int .i64 0, .int .i64 0, .int .i64 0, .int .i64 0, .int .i64 0, .int .i64 0, .int .i64 0] 24 (0, 0)) (by (with_reducible repeat (first | refine blk_drewN ?_ _ | refine blk_drew ?_ | refine blk_alloc ?_ _)); refine blk_far ?_ NB200_208.out _; (with_reducible repeat (first | refine blk_drewN ?_ _ | refine blk_drew ?_ | refine blk_alloc ?_ _)); refine blk_far ?_ NB200_208.out _; (with_reducible repeat (first | refine blk_drewN ?_ _ | refine blk_drew ?_ | refine blk_alloc ?_ _)); exact BK200.out) hb); have n1_ := Aside0.mk (blk_below (g := gb208) (o := .cells #[.int .i64 (wrap64 (rd l0 0)), .int .i64 (wrap64 (t203)), .int .i64 (wrap64 (t205)), .int .i64 (wrap64 (t207)), .int .i64 x210000_1, .int .i64 x210001_1, .int .i64 x210002_1, .int .i64 x210003_1, .int .i64 x210004_1, .int .i64 x210005_1, .int .i64 x210006_1, .int .i64 x210007_1] 24 (0, 0)) (by (with_reducible repeat (first | refine blk_drewN ?_ _ | refine blk_drew ?_ | refine blk_alloc ?_ _)); refine blk_put (cs := #[.int .i64 (wrap64 (rd l0 0)), .int .i64 (wrap64 (t203)), .int .i64 (wrap64 (t205)), .int .i64 (wrap64 (t207)), .int .i64 x210000_1, .int .i64 x210001_1, .int .i64 x210002_1, .int .i64 x210003_1, .int .i64 x210004_1, .int .i64 x210005_1, .int .i64 x210006_1, .int .i64 0]) ?_ 11 _ rfl; (with_reducible repeat (first | refine blk_drewN ?_ _ | refine blk_drew ?_ | refine blk_alloc ?_ _)); refine blk_put (cs := #[.int .i64 (wrap64 (rd l0 0)), .int .i64 (wrap64 (t203)), .int .i64 (wrap64 (t205)), .int .i64 (wrap64 (t207)), .int .i64 x210000_1, .int .i64 x210001_1, .int .i64 x210002_1, .int .i64 x210003_1, .int .i64 x210004_1, .int .i64 x210005_1, .int .i64 0, .int .i64 0]) ?_ 10 _ rfl; (with_reducible repeat (first | refine blk_drewN ?_ _ | refine blk_drew ?_ | refine blk_alloc ?_ _)); exact BK208.out) hb); have n2_ := Aside0.mk (blk_below (g := gb209) (o := .cells #[.int .i64 x210000_1, .int .i64 x210001_1, .int .i64 x210002_1, .int .i64 x210003_1, .int .i64 x210004_1, .int .i64 x210005_1, .int .i64 x210006_1, .int .i64 x210007_1] 49 (0, 0)) (by (with_reducible repeat (first | refine blk_drewN ?_ _ | refine blk_drew ?_ | refine blk_alloc ?_ _)); refine blk_far ?_ NB209_208.out _; (with_reducible repeat (first | refine blk_drewN ?_ _ | refine blk_drew ?_ | refine blk_alloc ?_ _)); refine blk_far ?_ NB209_208.out _; (with_reducible repeat (first | refine blk_drewN ?_ _ | refine blk_drew ?_ | refine blk_alloc ?_ _)); exact BK209.out) hb); have n3_ := Aside0.mk (below_step (by repeat (first | (with_reducible first | exact HB.out | apply below_alloc | apply pw_below_drewN | apply below_drew1 | refine below_set ?_ GE200.out | refine below_set ?_ GE208.out | refine below_set ?_ GE209.out) | exact HB.out)) hb); clear BK200; clear BK208; clear BK209; clear HB; have BK200 := n0_; have BK208 := n1_; have BK209 := n2_; have HB := n3_; clear n0_ n1_ n2_ n3_; (try clear hb); (try clear hb2); (try clear hk); (try clear hi); have q_ := cells12 BK208.out; have hcz108_0 := q_.c0; have hcz108_1 := q_.c1; have hcz108_2 := q_.c2; have hcz108_3 := q_.c3; have hcz108_4 := q_.c4; have hcz108_5 := q_.c5; have hcz108_6 := q_.c6; have hcz108_7 := q_.c7; have hcz108_8 := q_.c8; have hcz108_9 := q_.c9; have hcz108_10 := q_.c10; have hcz108_11 := q_.c11; have hfz108_0 := q_.f0; have hfz108_1 := q_.f1; have hfz108_2 := q_.f2; have hfz108_3 := q_.f3; have hfz108_4 := q_.f4; have hfz108_5 := q_.f5; have hfz108_6 := q_.f6; have hfz108_7 := q_.f7; have hfz108_8 := q_.f8; have hfz108_9 := q_.f9; have hfz108_10 := q_.f10; have hfz108_11 := q_.f11; clear q_; have q_ := cells12 BK200.out; have hcz109_0 := q_.c0; have hcz109_1 := q_.c1; have hcz109_2 := q_.c2; have hcz109_3 := q_.c3; have hcz109_4 := q_.c4; have hcz109_5 := q_.c5; have hcz109_6 := q_.c6; have hcz109_7 := q_.c7; have hcz109_8 := q_.c8; have hcz109_9 := q_.c9; have hcz109_10 := q_.c10; have hcz109_11 := q_.c11; have hfz109_0 := q_.f0; have hfz109_1 := q_.f1; have hfz109_2 := q_.f2; have hfz109_3 := q_.f3; have hfz109_4 := q_.f4; have hfz109_5 := q_.f5; have hfz109_6 := q_.f6; have hfz109_7 := q_.f7; have hfz109_8 := q_.f8; have hfz109_9 := q_.f9; have hfz109_10 := q_.f10; have hfz109_11 := q_.f11; clear q_))
                 refine bodyPost_ret (results_ct rfl _ _ gb200 24 #[.int .i64 (wrap64 (rd l0 0)), .int .i64 (wrap64 (t203)), .int .i64 (wrap64 (t205)), .int .i64 (wrap64 (t207)), .int .i64 x210000_1, .int .i64 x210001_1, .int .i64 x210002_1, .int .i64 x210003_1, .int .i64 x210004_1, .int .i64 x210005_1, .int .i64 x210006_1, .int .i64 x210007_1] (0, 0) _ rfl (by (with_reducible repeat (first | refine blk_drewN ?_ _ | refine blk_drew ?_ | refine blk_alloc ?_ _)); refine blk_put12 (.int .i64 0) (.int .i64 0) (.int .i64 0) (.int .i64 0) (.int .i64 0) (.int .i64 0) (.int .i64 0) (.int .i64 0) (.int .i64 0) (.int .i64 0) (.int .i64 0) (.int .i64 0) ?_; (with_reducible repeat (first | refine blk_drewN ?_ _ | refine blk_drew ?_ | refine blk_alloc ?_ _)); exact BK200.out) Try.underlying24 rfl (by kernel_rfl)) rfl ?_
                 exact ⟨by first | rfl | (simp [errW_none, errW_some] <;> rfl) | (simp [*, errW_none, errW_some] <;> rfl), by repeat (first | (with_reducible first | exact HB.out | apply below_alloc | apply pw_below_drewN | apply below_drew1 | refine below_set ?_ GE200.out | refine below_set ?_ GE208.out | refine below_set ?_ GE209.out) | exact HB.out)⟩
                ·replace c97 := Bool.eq_false_iff.mpr c97
                 subst c97
                 have H1 : (some (0, 0, 0, 0, 0, 0, 0, 0, 0, 0, 0, 0, 8)) = some (r1, r2, r3, r4, r5, r6, r7, r8, r9, r10, r11, r12, r13) := by rw [if_neg (show ¬ (false = true) by decide)] at H; exact H
                 clear H
                 have H := H1
                 clear H1
                 simp only [Option.some.injEq, Prod.mk.injEq] at H
                 obtain ⟨rfl, rfl, rfl, rfl, rfl, rfl, rfl, rfl, rfl, rfl, rfl, rfl, rfl⟩ := H
                 have hnb110 := NB209_200.out
                 have hnc110 := NB200_209.out
                 have hnb111 := NB209_208.out
                 have hnc111 := NB208_209.out
                 go_wp2
                 refine wp_region_still_tail 3 (by kernel_rfl) (by kernel_rfl) ?_
                 change wpStill _ _ wr.drew (fun a' => wpList _ _ _ _ a' wr.drew) _ _
                 obtain ⟨wd, hwd⟩ : ∃ v, v = wr.drew := ⟨_, rfl⟩
                 have x200 := blk_drew BK200.out
                 have x208 := blk_drew BK208.out
                 have x209 := blk_drew BK209.out
                 have xb := below_drew HB.out
                 rw [← hwd] at x200 x208 x209 xb ⊢
                 clear hwd
                 have X200 := Aside0.mk x200
                 have X208 := Aside0.mk x208
                 have X209 := Aside0.mk x209
                 have XB := Aside0.mk xb
                 clear x200 x208 x209 xb
                 simp only [List.take_succ_cons, List.take_zero, List.drop_succ_cons, List.drop_zero]
                 iterate 3 still_step
                 refine wpStill_nil ?_
                 refine copy_far rfl (.tmp 46) (.tmp 47) 44 44 rfl 3 Try.underlying44 hsz3_ (some ⟨gb208, 4, none⟩) (some ⟨gb209, 0, none⟩) 6 6 8 8 rfl rfl gb208 4 [.int .i64 (wrap64 (rd l0 0)), .int .i64 (wrap64 (t203)), .int .i64 (wrap64 (t205)), .int .i64 (wrap64 (t207)), .int .i64 0, .int .i64 0, .int .i64 0, .int .i64 0, .int .i64 0, .int .i64 0, .int .i64 0, .int .i64 0] 24 X208.out [.int .i64 x210000_1, .int .i64 x210001_1, .int .i64 x210002_1, .int .i64 x210003_1, .int .i64 x210004_1, .int .i64 x210005_1] rfl (by simp) ?hpos (by simp) ?h1 w.heap.size w XB.out GE208.out ?_
                 rotate_right
                 intro w115 hz208 hzo hzb
                 have n0_ := Aside0.mk ((hzo gb200 NB200_208.out).trans X200.out)
                 have n2_ := Aside0.mk ((hzo gb209 NB209_208.out).trans X209.out)
                 have n1_ : Aside0 (w115.heap[gb208]? = some (.cells #[.int .i64 (wrap64 (rd l0 0)), .int .i64 (wrap64 (t203)), .int .i64 (wrap64 (t205)), .int .i64 (wrap64 (t207)), .int .i64 x210000_1, .int .i64 x210001_1, .int .i64 x210002_1, .int .i64 x210003_1, .int .i64 x210004_1, .int .i64 x210005_1, .int .i64 0, .int .i64 0] 24 (0, 0))) := ⟨hz208⟩
                 have n3_ := Aside0.mk hzb
                 clear hzo hz208 hzb X200 X208 X209 XB
                 case hpos =>
                  intro _
                  refine ⟨rfl, _, rfl, fun j v hj => ?_⟩
                  have h12 := blk_cell X209.out j
                  rw [show (⟨gb209, 0, none⟩ : Addr).add j = ⟨gb209, j, none⟩ from by (unfold Addr.add; split; simp_all; simp)]
                  refine h12.trans ?_
                  clear h12
                  rcases j with _ | _ | _ | _ | _ | _ | j
                  ·exact hj
                  ·exact hj
                  ·exact hj
                  ·exact hj
                  ·exact hj
                  ·exact hj
                  ·cases hj
                 case h1 => intro v hv; simp at hv; rcases hv with rfl | rfl | rfl | rfl | rfl | rfl <;> rfl
                 clear BK200
                 clear BK208
                 clear BK209
                 clear HB
                 have BK200 := n0_
                 have BK208 := n1_
                 have BK209 := n2_
                 have HB := n3_
                 clear n0_ n1_ n2_ n3_
                 (try clear hb)
                 (try clear hb2)
                 (try clear hk)
                 (try clear hi)
                 have q_ := cells8 BK209.out; have hcz116_0 := q_.c0; have hcz116_1 := q_.c1; have hcz116_2 := q_.c2; have hcz116_3 := q_.c3; have hcz116_4 := q_.c4; have hcz116_5 := q_.c5; have hcz116_6 := q_.c6; have hcz116_7 := q_.c7; have hfz116_0 := q_.f0; have hfz116_1 := q_.f1; have hfz116_2 := q_.f2; have hfz116_3 := q_.f3; have hfz116_4 := q_.f4; have hfz116_5 := q_.f5; have hfz116_6 := q_.f6; have hfz116_7 := q_.f7; clear q_
                 have q_ := cells12 BK208.out; have hcz117_0 := q_.c0; have hcz117_1 := q_.c1; have hcz117_2 := q_.c2; have hcz117_3 := q_.c3; have hcz117_4 := q_.c4; have hcz117_5 := q_.c5; have hcz117_6 := q_.c6; have hcz117_7 := q_.c7; have hcz117_8 := q_.c8; have hcz117_9 := q_.c9; have hcz117_10 := q_.c10; have hcz117_11 := q_.c11; have hfz117_0 := q_.f0; have hfz117_1 := q_.f1; have hfz117_2 := q_.f2; have hfz117_3 := q_.f3; have hfz117_4 := q_.f4; have hfz117_5 := q_.f5; have hfz117_6 := q_.f6; have hfz117_7 := q_.f7; have hfz117_8 := q_.f8; have hfz117_9 := q_.f9; have hfz117_10 := q_.f10; have hfz117_11 := q_.f11; clear q_
                 have p220 : 0 ≤ (1 : Int) := (by omega)
                 have q220 : 1 < (l0.length : Int) := of_decide_eq_true (by first | (with_reducible assumption) | assumption)
                 obtain ⟨ad220, e220, hx220_0⟩ := Kd.at_int HR0.out 1 p220 q220
                 obtain rfl : ad201 = ad220 := (by injection e220)
                 (try simp only [show (1 : Int).toNat = 1 from rfl, Nat.reduceMul, Nat.reduceEqDiff, Go.Addr.add, ↓reduceIte] at hx220_0)
                 have qi220 : (1 < l0.length) = True := eq_true (by omega)
                 (try rw [show ((1 : Int)).toNat = 1 from rfl] at hx220_0)
                 have hn220_0 : ad201.block ≠ gb208 := Nat.ne_of_lt (Nat.lt_of_lt_of_le (by have := World.block_lt_of_cell? _ _ hx220_0; first | rwa [add_block] at this | exact this) GW208.out)
                 have hn220_1 : ad201.block ≠ gb208 := Nat.ne_of_lt (Nat.lt_of_lt_of_le (by have := World.block_lt_of_cell? _ _ hx220_0; first | rwa [add_block] at this | exact this) GW208.out)
                 replace hx220_0 := (HB.out.cell (World.block_lt_of_cell? w _ hx220_0)).trans hx220_0
                 replace hx220_0 := (cell_far (p := ⟨gb208, 10, none⟩) (by first | (rw [add_block]; exact hn220_0) | (show (Addr.add _ _).block ≠ _; rw [add_block]; exact hn220_0) | exact hn220_0) (.int .i64 x210006_1)).trans hx220_0
                 replace hx220_0 := (cell_far (p := ⟨gb208, 11, none⟩) (by first | (rw [add_block]; exact hn220_1) | (show (Addr.add _ _).block ≠ _; rw [add_block]; exact hn220_1) | exact hn220_1) (.int .i64 x210007_1)).trans hx220_0
                 clear hn220_0
                 clear hn220_1
                 replace p220 := eq_true p220
                 replace q220 := eq_true q220
                 obtain ⟨i0118, hi0118, _, hsz118, _⟩ := info_parts info5
                 obtain ⟨A118, hcut118, hA118, hC118⟩ := print_drop_of (P := Try.prog) (Value.int .u8) 0 25 5 .i64 Try.underlying25 hi0118 hsz118 (some ad201) c0 l0 32 (by omega) (of_decide_eq_true (by first | (with_reducible assumption) | assumption)) HC0.out
                 have HR221 := Aside0.mk (Kd.C_of_reads (h1 := fun _ => rfl) (hA118 _ (Kd.reads_of_C HR0.out)))
                 have HC221 := Aside0.mk hC118
                 clear hA118 hC118 hi0118 hsz118
                 go_wp2_with (first | (go_at_call 31; rw [← List.length_drop (l := l0) (i := 32)]; (with_reducible refine (num_Zero.calls k1 _ _ (l0.drop 32) true _ ?side1 ?side2 A94.out).mono ?_); (case side1 => exact Kd.C_below HR221.out (by repeat (first | (with_reducible first | exact HB.out | apply below_alloc | apply pw_below_drewN | apply below_drew1 | refine below_set ?_ GE200.out | refine below_set ?_ GE208.out | refine below_set ?_ GE209.out) | exact HB.out))); (case side2 => exact HC221.out); rintro e w' ⟨rfl, ⟨nd, rfl⟩⟩) | (go_at_call 11; (with_reducible refine (inode_Right.calls k1 (wrap64 (rd l0 0)) (wrap64 (t203)) (wrap64 (t205)) (wrap64 (t207)) x210000_1 x210001_1 x210002_1 x210003_1 x210004_1 x210005_1 x210006_1 x210007_1 false _ A96.out).mono ?_); rintro e w119 ⟨rfl, hb⟩; have n0_ := Aside0.mk (blk_below (g := gb200) (o := .cells #[.int .i64 0, .int .i64 0, .int .i64 0, .int .i64 0, .int .i64 0, .int .i64 0, .int .i64 0, .int .i64 0, .int .i64 0, .int .i64 0, .int .i64 0, .int .i64 0] 24 (0, 0)) (by (with_reducible repeat (first | refine blk_drewN ?_ _ | refine blk_drew ?_ | refine blk_alloc ?_ _)); refine blk_far ?_ NB200_208.out _; (with_reducible repeat (first | refine blk_drewN ?_ _ | refine blk_drew ?_ | refine blk_alloc ?_ _)); refine blk_far ?_ NB200_208.out _; (with_reducible repeat (first | refine blk_drewN ?_ _ | refine blk_drew ?_ | refine blk_alloc ?_ _)); exact BK200.out) hb); have n1_ := Aside0.mk (blk_below (g := gb208) (o := .cells #[.int .i64 (wrap64 (rd l0 0)), .int .i64 (wrap64 (t203)), .int .i64 (wrap64 (t205)), .int .i64 (wrap64 (t207)), .int .i64 x210000_1, .int .i64 x210001_1, .int .i64 x210002_1, .int .i64 x210003_1, .int .i64 x210004_1, .int .i64 x210005_1, .int .i64 x210006_1, .int .i64 x210007_1] 24 (0, 0)) (by (with_reducible repeat (first | refine blk_drewN ?_ _ | refine blk_drew ?_ | refine blk_alloc ?_ _)); refine blk_put (cs := #[.int .i64 (wrap64 (rd l0 0)), .int .i64 (wrap64 (t203)), .int .i64 (wrap64 (t205)), .int .i64 (wrap64 (t207)), .int .i64 x210000_1, .int .i64 x210001_1, .int .i64 x210002_1, .int .i64 x210003_1, .int .i64 x210004_1, .int .i64 x210005_1, .int .i64 x210006_1, .int .i64 0]) ?_ 11 _ rfl; (with_reducible repeat (first | refine blk_drewN ?_ _ | refine blk_drew ?_ | refine blk_alloc ?_ _)); refine blk_put (cs := #[.int .i64 (wrap64 (rd l0 0)), .int .i64 (wrap64 (t203)), .int .i64 (wrap64 (t205)), .int .i64 (wrap64 (t207)), .int .i64 x210000_1, .int .i64 x210001_1, .int .i64 x210002_1, .int .i64 x210003_1, .int .i64 x210004_1, .int .i64 x210005_1, .int .i64 0, .int .i64 0]) ?_ 10 _ rfl; (with_reducible repeat (first | refine blk_drewN ?_ _ | refine blk_drew ?_ | refine blk_alloc ?_ _)); exact BK208.out) hb); have n2_ := Aside0.mk (blk_below (g := gb209) (o := .cells #[.int .i64 x210000_1, .int .i64 x210001_1, .int .i64 x210002_1, .int .i64 x210003_1, .int .i64 x210004_1, .int .i64 x210005_1, .int .i64 x210006_1, .int .i64 x210007_1] 49 (0, 0)) (by (with_reducible repeat (first | refine blk_drewN ?_ _ | refine blk_drew ?_ | refine blk_alloc ?_ _)); refine blk_far ?_ NB209_208.out _; (with_reducible repeat (first | refine blk_drewN ?_ _ | refine blk_drew ?_ | refine blk_alloc ?_ _)); refine blk_far ?_ NB209_208.out _; (with_reducible repeat (first | refine blk_drewN ?_ _ | refine blk_drew ?_ | refine blk_alloc ?_ _)); exact BK209.out) hb); have n3_ := Aside0.mk (below_step (by repeat (first | (with_reducible first | exact HB.out | apply below_alloc | apply pw_below_drewN | apply below_drew1 | refine below_set ?_ GE200.out | refine below_set ?_ GE208.out | refine below_set ?_ GE209.out) | exact HB.out)) hb); clear BK200; clear BK208; clear BK209; clear HB; have BK200 := n0_; have BK208 := n1_; have BK209 := n2_; have HB := n3_; clear n0_ n1_ n2_ n3_; (try clear hb); (try clear hb2); (try clear hk); (try clear hi); have q_ := cells12 BK200.out; have hcz120_0 := q_.c0; have hcz120_1 := q_.c1; have hcz120_2 := q_.c2; have hcz120_3 := q_.c3; have hcz120_4 := q_.c4; have hcz120_5 := q_.c5; have hcz120_6 := q_.c6; have hcz120_7 := q_.c7; have hcz120_8 := q_.c8; have hcz120_9 := q_.c9; have hcz120_10 := q_.c10; have hcz120_11 := q_.c11; have hfz120_0 := q_.f0; have hfz120_1 := q_.f1; have hfz120_2 := q_.f2; have hfz120_3 := q_.f3; have hfz120_4 := q_.f4; have hfz120_5 := q_.f5; have hfz120_6 := q_.f6; have hfz120_7 := q_.f7; have hfz120_8 := q_.f8; have hfz120_9 := q_.f9; have hfz120_10 := q_.f10; have hfz120_11 := q_.f11; clear q_))
                 refine bodyPost_ret (results_ct rfl _ _ gb200 24 #[.int .i64 0, .int .i64 0, .int .i64 0, .int .i64 0, .int .i64 0, .int .i64 0, .int .i64 0, .int .i64 0, .int .i64 0, .int .i64 0, .int .i64 0, .int .i64 0] (0, 0) _ rfl (by (with_reducible repeat (first | refine blk_drewN ?_ _ | refine blk_drew ?_ | refine blk_alloc ?_ _)); refine blk_put12 (.int .i64 0) (.int .i64 0) (.int .i64 0) (.int .i64 0) (.int .i64 0) (.int .i64 0) (.int .i64 0) (.int .i64 0) (.int .i64 0) (.int .i64 0) (.int .i64 0) (.int .i64 0) ?_; (with_reducible repeat (first | refine blk_drewN ?_ _ | refine blk_drew ?_ | refine blk_alloc ?_ _)); exact BK200.out) Try.underlying24 rfl (by kernel_rfl)) rfl ?_
                 exact ⟨by first | rfl | (simp [errW_none, errW_some] <;> rfl) | (simp [*, errW_none, errW_some] <;> rfl), by repeat (first | (with_reducible first | exact HB.out | apply below_alloc | apply pw_below_drewN | apply below_drew1 | refine below_set ?_ GE200.out | refine below_set ?_ GE208.out | refine below_set ?_ GE209.out) | exact HB.out)⟩
               ·replace c95 := Bool.eq_false_iff.mpr c95
                subst c95
                have H1 : (some (0, 0, 0, 0, 0, 0, 0, 0, 0, 0, 0, 0, 8)) = some (r1, r2, r3, r4, r5, r6, r7, r8, r9, r10, r11, r12, r13) := by rw [if_neg (show ¬ (false = true) by decide)] at H; exact H
                clear H
                have H := H1
                clear H1
                simp only [Option.some.injEq, Prod.mk.injEq] at H
                obtain ⟨rfl, rfl, rfl, rfl, rfl, rfl, rfl, rfl, rfl, rfl, rfl, rfl, rfl⟩ := H
                have hnb121 := NB209_200.out
                have hnc121 := NB200_209.out
                have hnb122 := NB209_208.out
                have hnc122 := NB208_209.out
                go_wp2
                refine wp_region_still_tail 3 (by kernel_rfl) (by kernel_rfl) ?_
                change wpStill _ _ wr.drew (fun a' => wpList _ _ _ _ a' wr.drew) _ _
                obtain ⟨wd, hwd⟩ : ∃ v, v = wr.drew := ⟨_, rfl⟩
                have x200 := blk_drew BK200.out
                have x208 := blk_drew BK208.out
                have x209 := blk_drew BK209.out
                have xb := below_drew HB.out
                rw [← hwd] at x200 x208 x209 xb ⊢
                clear hwd
                have X200 := Aside0.mk x200
                have X208 := Aside0.mk x208
                have X209 := Aside0.mk x209
                have XB := Aside0.mk xb
                clear x200 x208 x209 xb
                simp only [List.take_succ_cons, List.take_zero, List.drop_succ_cons, List.drop_zero]
                iterate 3 still_step
                refine wpStill_nil ?_
                refine copy_far rfl (.tmp 46) (.tmp 47) 44 44 rfl 3 Try.underlying44 hsz3_ (some ⟨gb208, 4, none⟩) (some ⟨gb209, 0, none⟩) 6 6 8 8 rfl rfl gb208 4 [.int .i64 (wrap64 (rd l0 0)), .int .i64 (wrap64 (t203)), .int .i64 (wrap64 (t205)), .int .i64 (wrap64 (t207)), .int .i64 0, .int .i64 0, .int .i64 0, .int .i64 0, .int .i64 0, .int .i64 0, .int .i64 0, .int .i64 0] 24 X208.out [.int .i64 x210000_1, .int .i64 x210001_1, .int .i64 x210002_1, .int .i64 x210003_1, .int .i64 x210004_1, .int .i64 x210005_1] rfl (by simp) ?hpos (by simp) ?h1 w.heap.size w XB.out GE208.out ?_
                rotate_right
                intro w126 hz208 hzo hzb
                have n0_ := Aside0.mk ((hzo gb200 NB200_208.out).trans X200.out)
                have n2_ := Aside0.mk ((hzo gb209 NB209_208.out).trans X209.out)
                have n1_ : Aside0 (w126.heap[gb208]? = some (.cells #[.int .i64 (wrap64 (rd l0 0)), .int .i64 (wrap64 (t203)), .int .i64 (wrap64 (t205)), .int .i64 (wrap64 (t207)), .int .i64 x210000_1, .int .i64 x210001_1, .int .i64 x210002_1, .int .i64 x210003_1, .int .i64 x210004_1, .int .i64 x210005_1, .int .i64 0, .int .i64 0] 24 (0, 0))) := ⟨hz208⟩
                have n3_ := Aside0.mk hzb
                clear hzo hz208 hzb X200 X208 X209 XB
                case hpos =>
                 intro _
                 refine ⟨rfl, _, rfl, fun j v hj => ?_⟩
                 have h12 := blk_cell X209.out j
                 rw [show (⟨gb209, 0, none⟩ : Addr).add j = ⟨gb209, j, none⟩ from by (unfold Addr.add; split; simp_all; simp)]
                 refine h12.trans ?_
                 clear h12
                 rcases j with _ | _ | _ | _ | _ | _ | j
                 ·exact hj
                 ·exact hj
                 ·exact hj
                 ·exact hj
                 ·exact hj
                 ·exact hj
                 ·cases hj
                case h1 => intro v hv; simp at hv; rcases hv with rfl | rfl | rfl | rfl | rfl | rfl <;> rfl
                clear BK200
                clear BK208
                clear BK209
                clear HB
                have BK200 := n0_
                have BK208 := n1_
                have BK209 := n2_
                have HB := n3_
                clear n0_ n1_ n2_ n3_
                (try clear hb)
                (try clear hb2)
                (try clear hk)
                (try clear hi)
                have q_ := cells8 BK209.out; have hcz127_0 := q_.c0; have hcz127_1 := q_.c1; have hcz127_2 := q_.c2; have hcz127_3 := q_.c3; have hcz127_4 := q_.c4; have hcz127_5 := q_.c5; have hcz127_6 := q_.c6; have hcz127_7 := q_.c7; have hfz127_0 := q_.f0; have hfz127_1 := q_.f1; have hfz127_2 := q_.f2; have hfz127_3 := q_.f3; have hfz127_4 := q_.f4; have hfz127_5 := q_.f5; have hfz127_6 := q_.f6; have hfz127_7 := q_.f7; clear q_
                have q_ := cells12 BK208.out; have hcz128_0 := q_.c0; have hcz128_1 := q_.c1; have hcz128_2 := q_.c2; have hcz128_3 := q_.c3; have hcz128_4 := q_.c4; have hcz128_5 := q_.c5; have hcz128_6 := q_.c6; have hcz128_7 := q_.c7; have hcz128_8 := q_.c8; have hcz128_9 := q_.c9; have hcz128_10 := q_.c10; have hcz128_11 := q_.c11; have hfz128_0 := q_.f0; have hfz128_1 := q_.f1; have hfz128_2 := q_.f2; have hfz128_3 := q_.f3; have hfz128_4 := q_.f4; have hfz128_5 := q_.f5; have hfz128_6 := q_.f6; have hfz128_7 := q_.f7; have hfz128_8 := q_.f8; have hfz128_9 := q_.f9; have hfz128_10 := q_.f10; have hfz128_11 := q_.f11; clear q_
                have p220 : 0 ≤ (1 : Int) := (by omega)
                have q220 : 1 < (l0.length : Int) := of_decide_eq_true (by first | (with_reducible assumption) | assumption)
                obtain ⟨ad220, e220, hx220_0⟩ := Kd.at_int HR0.out 1 p220 q220
                obtain rfl : ad201 = ad220 := (by injection e220)
                (try simp only [show (1 : Int).toNat = 1 from rfl, Nat.reduceMul, Nat.reduceEqDiff, Go.Addr.add, ↓reduceIte] at hx220_0)
                have qi220 : (1 < l0.length) = True := eq_true (by omega)
                (try rw [show ((1 : Int)).toNat = 1 from rfl] at hx220_0)
                have hn220_0 : ad201.block ≠ gb208 := Nat.ne_of_lt (Nat.lt_of_lt_of_le (by have := World.block_lt_of_cell? _ _ hx220_0; first | rwa [add_block] at this | exact this) GW208.out)
                have hn220_1 : ad201.block ≠ gb208 := Nat.ne_of_lt (Nat.lt_of_lt_of_le (by have := World.block_lt_of_cell? _ _ hx220_0; first | rwa [add_block] at this | exact this) GW208.out)
                replace hx220_0 := (HB.out.cell (World.block_lt_of_cell? w _ hx220_0)).trans hx220_0
                replace hx220_0 := (cell_far (p := ⟨gb208, 10, none⟩) (by first | (rw [add_block]; exact hn220_0) | (show (Addr.add _ _).block ≠ _; rw [add_block]; exact hn220_0) | exact hn220_0) (.int .i64 x210006_1)).trans hx220_0
                replace hx220_0 := (cell_far (p := ⟨gb208, 11, none⟩) (by first | (rw [add_block]; exact hn220_1) | (show (Addr.add _ _).block ≠ _; rw [add_block]; exact hn220_1) | exact hn220_1) (.int .i64 x210007_1)).trans hx220_0
                clear hn220_0
                clear hn220_1
                replace p220 := eq_true p220
                replace q220 := eq_true q220
                obtain ⟨i0129, hi0129, _, hsz129, _⟩ := info_parts info5
                obtain ⟨A129, hcut129, hA129, hC129⟩ := print_drop_of (P := Try.prog) (Value.int .u8) 0 25 5 .i64 Try.underlying25 hi0129 hsz129 (some ad201) c0 l0 32 (by omega) (of_decide_eq_true (by first | (with_reducible assumption) | assumption)) HC0.out
                have HR221 := Aside0.mk (Kd.C_of_reads (h1 := fun _ => rfl) (hA129 _ (Kd.reads_of_C HR0.out)))
                have HC221 := Aside0.mk hC129
                clear hA129 hC129 hi0129 hsz129
                go_wp2_with (first | (go_at_call 31; rw [← List.length_drop (l := l0) (i := 32)]; (with_reducible refine (num_Zero.calls k1 _ _ (l0.drop 32) false _ ?side1 ?side2 A94.out).mono ?_); (case side1 => exact Kd.C_below HR221.out (by repeat (first | (with_reducible first | exact HB.out | apply below_alloc | apply pw_below_drewN | apply below_drew1 | refine below_set ?_ GE200.out | refine below_set ?_ GE208.out | refine below_set ?_ GE209.out) | exact HB.out))); (case side2 => exact HC221.out); rintro e w' ⟨rfl, ⟨nd, rfl⟩⟩; have q_ := cells12 BK200.out; have hcz130_0 := q_.c0; have hcz130_1 := q_.c1; have hcz130_2 := q_.c2; have hcz130_3 := q_.c3; have hcz130_4 := q_.c4; have hcz130_5 := q_.c5; have hcz130_6 := q_.c6; have hcz130_7 := q_.c7; have hcz130_8 := q_.c8; have hcz130_9 := q_.c9; have hcz130_10 := q_.c10; have hcz130_11 := q_.c11; have hfz130_0 := q_.f0; have hfz130_1 := q_.f1; have hfz130_2 := q_.f2; have hfz130_3 := q_.f3; have hfz130_4 := q_.f4; have hfz130_5 := q_.f5; have hfz130_6 := q_.f6; have hfz130_7 := q_.f7; have hfz130_8 := q_.f8; have hfz130_9 := q_.f9; have hfz130_10 := q_.f10; have hfz130_11 := q_.f11; clear q_))
                refine bodyPost_ret (results_ct rfl _ _ gb200 24 #[.int .i64 0, .int .i64 0, .int .i64 0, .int .i64 0, .int .i64 0, .int .i64 0, .int .i64 0, .int .i64 0, .int .i64 0, .int .i64 0, .int .i64 0, .int .i64 0] (0, 0) _ rfl (by (with_reducible repeat (first | refine blk_drewN ?_ _ | refine blk_drew ?_ | refine blk_alloc ?_ _)); refine blk_put12 (.int .i64 0) (.int .i64 0) (.int .i64 0) (.int .i64 0) (.int .i64 0) (.int .i64 0) (.int .i64 0) (.int .i64 0) (.int .i64 0) (.int .i64 0) (.int .i64 0) (.int .i64 0) ?_; (with_reducible repeat (first | refine blk_drewN ?_ _ | refine blk_drew ?_ | refine blk_alloc ?_ _)); refine blk_far ?_ NB200_208.out _; (with_reducible repeat (first | refine blk_drewN ?_ _ | refine blk_drew ?_ | refine blk_alloc ?_ _)); refine blk_far ?_ NB200_208.out _; (with_reducible repeat (first | refine blk_drewN ?_ _ | refine blk_drew ?_ | refine blk_alloc ?_ _)); exact BK200.out) Try.underlying24 rfl (by kernel_rfl)) rfl ?_
                exact ⟨by first | rfl | (simp [errW_none, errW_some] <;> rfl) | (simp [*, errW_none, errW_some] <;> rfl), by repeat (first | (with_reducible first | exact HB.out | apply below_alloc | apply pw_below_drewN | apply below_drew1 | refine below_set ?_ GE200.out | refine below_set ?_ GE208.out | refine below_set ?_ GE209.out) | exact HB.out)⟩
              ·rw [if_neg c93] at H
               exact absurd H (by simp)
             ·rw [if_neg c92] at H
              have c92b0 : ((rd l0 1) == 0) = false := beq_eq_false_iff_ne.mpr c92
              have c92b1 : ((rd l0 1) != 0) = true := bne_iff_ne.mpr c92
              simp only [Option.some.injEq, Prod.mk.injEq] at H
              obtain ⟨rfl, rfl, rfl, rfl, rfl, rfl, rfl, rfl, rfl, rfl, rfl, rfl, rfl⟩ := H
              have hnb131 := NB209_200.out
              have hnc131 := NB200_209.out
              have hnb132 := NB209_208.out
              have hnc132 := NB208_209.out
              go_wp2
              refine wp_region_still_tail 3 (by kernel_rfl) (by kernel_rfl) ?_
              change wpStill _ _ wr.drew (fun a' => wpList _ _ _ _ a' wr.drew) _ _
              obtain ⟨wd, hwd⟩ : ∃ v, v = wr.drew := ⟨_, rfl⟩
              have x200 := blk_drew BK200.out
              have x208 := blk_drew BK208.out
              have x209 := blk_drew BK209.out
              have xb := below_drew HB.out
              rw [← hwd] at x200 x208 x209 xb ⊢
              clear hwd
              have X200 := Aside0.mk x200
              have X208 := Aside0.mk x208
              have X209 := Aside0.mk x209
              have XB := Aside0.mk xb
              clear x200 x208 x209 xb
              simp only [List.take_succ_cons, List.take_zero, List.drop_succ_cons, List.drop_zero]
              iterate 3 still_step
              refine wpStill_nil ?_
              refine copy_far rfl (.tmp 46) (.tmp 47) 44 44 rfl 3 Try.underlying44 hsz3_ (some ⟨gb208, 4, none⟩) (some ⟨gb209, 0, none⟩) 6 6 8 8 rfl rfl gb208 4 [.int .i64 (wrap64 (rd l0 0)), .int .i64 (wrap64 (t203)), .int .i64 (wrap64 (t205)), .int .i64 (wrap64 (t207)), .int .i64 0, .int .i64 0, .int .i64 0, .int .i64 0, .int .i64 0, .int .i64 0, .int .i64 0, .int .i64 0] 24 X208.out [.int .i64 x210000_1, .int .i64 x210001_1, .int .i64 x210002_1, .int .i64 x210003_1, .int .i64 x210004_1, .int .i64 x210005_1] rfl (by simp) ?hpos (by simp) ?h1 w.heap.size w XB.out GE208.out ?_
              rotate_right
              intro w136 hz208 hzo hzb
              have n0_ := Aside0.mk ((hzo gb200 NB200_208.out).trans X200.out)
              have n2_ := Aside0.mk ((hzo gb209 NB209_208.out).trans X209.out)
              have n1_ : Aside0 (w136.heap[gb208]? = some (.cells #[.int .i64 (wrap64 (rd l0 0)), .int .i64 (wrap64 (t203)), .int .i64 (wrap64 (t205)), .int .i64 (wrap64 (t207)), .int .i64 x210000_1, .int .i64 x210001_1, .int .i64 x210002_1, .int .i64 x210003_1, .int .i64 x210004_1, .int .i64 x210005_1, .int .i64 0, .int .i64 0] 24 (0, 0))) := ⟨hz208⟩
              have n3_ := Aside0.mk hzb
              clear hzo hz208 hzb X200 X208 X209 XB
              case hpos =>
               intro _
               refine ⟨rfl, _, rfl, fun j v hj => ?_⟩
               have h12 := blk_cell X209.out j
               rw [show (⟨gb209, 0, none⟩ : Addr).add j = ⟨gb209, j, none⟩ from by (unfold Addr.add; split; simp_all; simp)]
               refine h12.trans ?_
               clear h12
               rcases j with _ | _ | _ | _ | _ | _ | j
               ·exact hj
               ·exact hj
               ·exact hj
               ·exact hj
               ·exact hj
               ·exact hj
               ·cases hj
              case h1 => intro v hv; simp at hv; rcases hv with rfl | rfl | rfl | rfl | rfl | rfl <;> rfl
              clear BK200
              clear BK208
              clear BK209
              clear HB
              have BK200 := n0_
              have BK208 := n1_
              have BK209 := n2_
              have HB := n3_
              clear n0_ n1_ n2_ n3_
              (try clear hb)
              (try clear hb2)
              (try clear hk)
              (try clear hi)
              have q_ := cells8 BK209.out; have hcz137_0 := q_.c0; have hcz137_1 := q_.c1; have hcz137_2 := q_.c2; have hcz137_3 := q_.c3; have hcz137_4 := q_.c4; have hcz137_5 := q_.c5; have hcz137_6 := q_.c6; have hcz137_7 := q_.c7; have hfz137_0 := q_.f0; have hfz137_1 := q_.f1; have hfz137_2 := q_.f2; have hfz137_3 := q_.f3; have hfz137_4 := q_.f4; have hfz137_5 := q_.f5; have hfz137_6 := q_.f6; have hfz137_7 := q_.f7; clear q_
              have q_ := cells12 BK208.out; have hcz138_0 := q_.c0; have hcz138_1 := q_.c1; have hcz138_2 := q_.c2; have hcz138_3 := q_.c3; have hcz138_4 := q_.c4; have hcz138_5 := q_.c5; have hcz138_6 := q_.c6; have hcz138_7 := q_.c7; have hcz138_8 := q_.c8; have hcz138_9 := q_.c9; have hcz138_10 := q_.c10; have hcz138_11 := q_.c11; have hfz138_0 := q_.f0; have hfz138_1 := q_.f1; have hfz138_2 := q_.f2; have hfz138_3 := q_.f3; have hfz138_4 := q_.f4; have hfz138_5 := q_.f5; have hfz138_6 := q_.f6; have hfz138_7 := q_.f7; have hfz138_8 := q_.f8; have hfz138_9 := q_.f9; have hfz138_10 := q_.f10; have hfz138_11 := q_.f11; clear q_
              have p220 : 0 ≤ (1 : Int) := (by omega)
              have q220 : 1 < (l0.length : Int) := of_decide_eq_true (by first | (with_reducible assumption) | assumption)
              obtain ⟨ad220, e220, hx220_0⟩ := Kd.at_int HR0.out 1 p220 q220
              obtain rfl : ad201 = ad220 := (by injection e220)
              (try simp only [show (1 : Int).toNat = 1 from rfl, Nat.reduceMul, Nat.reduceEqDiff, Go.Addr.add, ↓reduceIte] at hx220_0)
              have qi220 : (1 < l0.length) = True := eq_true (by omega)
              (try rw [show ((1 : Int)).toNat = 1 from rfl] at hx220_0)
              have hn220_0 : ad201.block ≠ gb208 := Nat.ne_of_lt (Nat.lt_of_lt_of_le (by have := World.block_lt_of_cell? _ _ hx220_0; first | rwa [add_block] at this | exact this) GW208.out)
              have hn220_1 : ad201.block ≠ gb208 := Nat.ne_of_lt (Nat.lt_of_lt_of_le (by have := World.block_lt_of_cell? _ _ hx220_0; first | rwa [add_block] at this | exact this) GW208.out)
              replace hx220_0 := (HB.out.cell (World.block_lt_of_cell? w _ hx220_0)).trans hx220_0
              replace hx220_0 := (cell_far (p := ⟨gb208, 10, none⟩) (by first | (rw [add_block]; exact hn220_0) | (show (Addr.add _ _).block ≠ _; rw [add_block]; exact hn220_0) | exact hn220_0) (.int .i64 x210006_1)).trans hx220_0
              replace hx220_0 := (cell_far (p := ⟨gb208, 11, none⟩) (by first | (rw [add_block]; exact hn220_1) | (show (Addr.add _ _).block ≠ _; rw [add_block]; exact hn220_1) | exact hn220_1) (.int .i64 x210007_1)).trans hx220_0
              clear hn220_0
              clear hn220_1
              replace p220 := eq_true p220
              replace q220 := eq_true q220
              have q_ := cells12 BK200.out; have hcz139_0 := q_.c0; have hcz139_1 := q_.c1; have hcz139_2 := q_.c2; have hcz139_3 := q_.c3; have hcz139_4 := q_.c4; have hcz139_5 := q_.c5; have hcz139_6 := q_.c6; have hcz139_7 := q_.c7; have hcz139_8 := q_.c8; have hcz139_9 := q_.c9; have hcz139_10 := q_.c10; have hcz139_11 := q_.c11; have hfz139_0 := q_.f0; have hfz139_1 := q_.f1; have hfz139_2 := q_.f2; have hfz139_3 := q_.f3; have hfz139_4 := q_.f4; have hfz139_5 := q_.f5; have hfz139_6 := q_.f6; have hfz139_7 := q_.f7; have hfz139_8 := q_.f8; have hfz139_9 := q_.f9; have hfz139_10 := q_.f10; have hfz139_11 := q_.f11; clear q_
              go_wp2
              refine bodyPost_ret (results_ct rfl _ _ gb200 24 #[.int .i64 0, .int .i64 0, .int .i64 0, .int .i64 0, .int .i64 0, .int .i64 0, .int .i64 0, .int .i64 0, .int .i64 0, .int .i64 0, .int .i64 0, .int .i64 0] (0, 0) _ rfl (by (with_reducible repeat (first | refine blk_drewN ?_ _ | refine blk_drew ?_ | refine blk_alloc ?_ _)); refine blk_put12 (.int .i64 0) (.int .i64 0) (.int .i64 0) (.int .i64 0) (.int .i64 0) (.int .i64 0) (.int .i64 0) (.int .i64 0) (.int .i64 0) (.int .i64 0) (.int .i64 0) (.int .i64 0) ?_; (with_reducible repeat (first | refine blk_drewN ?_ _ | refine blk_drew ?_ | refine blk_alloc ?_ _)); refine blk_far ?_ NB200_208.out _; (with_reducible repeat (first | refine blk_drewN ?_ _ | refine blk_drew ?_ | refine blk_alloc ?_ _)); refine blk_far ?_ NB200_208.out _; (with_reducible repeat (first | refine blk_drewN ?_ _ | refine blk_drew ?_ | refine blk_alloc ?_ _)); exact BK200.out) Try.underlying24 rfl (by kernel_rfl)) rfl ?_
              exact ⟨by first | rfl | (simp [errW_none, errW_some] <;> rfl) | (simp [*, errW_none, errW_some] <;> rfl), by repeat (first | (with_reducible first | exact HB.out | apply below_alloc | apply pw_below_drewN | apply below_drew1 | refine below_set ?_ GE200.out | refine below_set ?_ GE208.out | refine below_set ?_ GE209.out) | exact HB.out)⟩
            ·rw [if_neg c91] at H
             exact absurd H (by simp)
        ·rw [if_neg c11] at H
         exact absurd H (by simp)
       ·rw [if_neg c10] at H
        exact absurd H (by simp)
      ·rw [if_neg c8] at H
       exact absurd H (by simp)
     ·rw [if_neg c7] at H
      exact absurd H (by simp)
    ·rw [if_neg c5] at H
     exact absurd H (by simp)
   ·rw [if_neg c4] at H
    exact absurd H (by simp)
  ·rw [if_neg c3] at H
   exact absurd H (by simp)
 ·rw [if_neg c2] at H
  have c2b0 : ((l0.length : Int) == 64) = false := beq_eq_false_iff_ne.mpr c2
  have c2b1 : ((l0.length : Int) != 64) = true := bne_iff_ne.mpr c2
  simp only [Option.some.injEq, Prod.mk.injEq] at H
  obtain ⟨rfl, rfl, rfl, rfl, rfl, rfl, rfl, rfl, rfl, rfl, rfl, rfl, rfl⟩ := H
  go_enter Try.func9, Try.ntmps9
  go_wp2_with (first | ((with_reducible refine gate_dst (N := 2) rfl ?_); refine box_event ?hg (N := 2) ?hd (cs := #[.int .i64 0, .int .i64 0, .int .i64 0, .int .i64 0, .int .i64 0, .int .i64 0, .int .i64 0, .int .i64 0, .int .i64 0, .int .i64 0, .int .i64 0, .int .i64 0]) (t := 24) ?hr ?_; (case hd => rfl); (case hg => rfl); (case hr => first | (go_simp; done) | (go_simp; rfl)); intro gb200 hg w140 hbox hb; have n0_ := Aside0.mk (below_step (by repeat (first | (with_reducible first | exact HB.out | apply below_alloc | apply pw_below_drewN | apply below_drew1) | exact HB.out)) hb); have n1_ := Aside0.mk (hbox); have n2_ := Aside0.mk ((by rw [hg]; exact (below_size (by repeat (first | (with_reducible first | exact HB.out | apply below_alloc | apply pw_below_drewN | apply below_drew1) | exact HB.out))) : w.heap.size ≤ gb200)); have n3_ := Aside0.mk ((by rw [hg]; exact (below_size (by repeat (first | (with_reducible first | exact HB.out | apply below_alloc | apply pw_below_drewN | apply below_drew1) | exact HB.out))) : w.heap.size ≤ gb200)); clear HB; have HB := n0_; have BK200 := n1_; have GW200 := n2_; have GE200 := n3_; clear n0_ n1_ n2_ n3_; clear hb hbox hg; have q_ := cells12 BK200.out; have hcz141_0 := q_.c0; have hcz141_1 := q_.c1; have hcz141_2 := q_.c2; have hcz141_3 := q_.c3; have hcz141_4 := q_.c4; have hcz141_5 := q_.c5; have hcz141_6 := q_.c6; have hcz141_7 := q_.c7; have hcz141_8 := q_.c8; have hcz141_9 := q_.c9; have hcz141_10 := q_.c10; have hcz141_11 := q_.c11; have hfz141_0 := q_.f0; have hfz141_1 := q_.f1; have hfz141_2 := q_.f2; have hfz141_3 := q_.f3; have hfz141_4 := q_.f4; have hfz141_5 := q_.f5; have hfz141_6 := q_.f6; have hfz141_7 := q_.f7; have hfz141_8 := q_.f8; have hfz141_9 := q_.f9; have hfz141_10 := q_.f10; have hfz141_11 := q_.f11; clear q_))
  refine bodyPost_ret (results_ct rfl _ _ gb200 24 #[.int .i64 0, .int .i64 0, .int .i64 0, .int .i64 0, .int .i64 0, .int .i64 0, .int .i64 0, .int .i64 0, .int .i64 0, .int .i64 0, .int .i64 0, .int .i64 0] (0, 0) _ rfl (by (with_reducible repeat (first | refine blk_drewN ?_ _ | refine blk_drew ?_ | refine blk_alloc ?_ _)); refine blk_put12 (.int .i64 0) (.int .i64 0) (.int .i64 0) (.int .i64 0) (.int .i64 0) (.int .i64 0) (.int .i64 0) (.int .i64 0) (.int .i64 0) (.int .i64 0) (.int .i64 0) (.int .i64 0) ?_; (with_reducible repeat (first | refine blk_drewN ?_ _ | refine blk_drew ?_ | refine blk_alloc ?_ _)); exact BK200.out) Try.underlying24 rfl (by kernel_rfl)) rfl ?_
  exact ⟨by first | rfl | (simp [errW_none, errW_some] <;> rfl) | (simp [*, errW_none, errW_some] <;> rfl), by repeat (first | (with_reducible first | exact HB.out | apply below_alloc | apply pw_below_drewN | apply below_drew1 | refine below_set ?_ GE200.out) | exact HB.out)⟩

end Go.Proofs.Ythcndfnmgggblaa.P
