-- PRINTED by print.py (a twelfth state) out of the translation. Not trusted: Lean checks it.
import Derived.Test.YtjlacfhmjjjpiaaPx0
import Derived.Test.YtjlacfhmjjjpiaaHand
import Derived.Test.YtjlacfhmjjjpiaaHandDirent
import Derived.Test.YtjlacfhmjjjpiaaHandDirent2
import Derived.Test.YtjlacfhmjjjpiaaHandDirent3
import Derived.Test.YtjlacfhmjjjpiaaCells
namespace Go.Proofs.Ytjlacfhmjjjpiaa.P
open Go.RowKit Go.Proofs.YtjlacfhmjjjpiaaW.PrintWords Go.Proofs.YtjlacfhmjjjpiaaW.PrintLast Go.Proofs.YtjlacfhmjjjpiaaW.PrintMore
attribute [local go_sem] max2_int min2_int max_two min_two max_three min_three max_four min_four   -- for this text's walks alone
set_option linter.unusedVariables false
set_option linter.unusedSimpArgs false

/-! ### leveelaw08_known: function 14 -/
def leveelaw08_known.f (k : Nat)  : Option (Bool) := (dirent_Put.f k 5 false (⟨#[97]⟩ : ByteArray)).bind fun bt164 => (if 256 ≤ 281474976710656 then ((dirent_Lay.f k (List.replicate 256 0) 3 5 false (⟨#[97]⟩ : ByteArray)).bind fun bt171 => (if bt164.2 = 0 then (if (bt164.1.length : Int) = 32 then (if 6 ≤ (bt164.1.length : Int) then (if (strOfNums (bt164.1.take 6)).toList = ([5, 0, 0, 1, 97, 0] : List UInt8) then (if bt171.2 = 0 then ((dirent_Find.f k bt171.1 (⟨#[97]⟩ : ByteArray)).bind fun t179 => (if t179 = 3 then ((dirent_Room.f k bt171.1).bind fun t180 => (if t180 = 0 then ((dirent_Name.f k (⟨#[97]⟩ : ByteArray)).bind fun t181 => (if t181 = true then ((dirent_Name.f k (⟨#[46, 46]⟩ : ByteArray)).bind fun t182 => (some (!t182))) else (none))) else (none))) else (none))) else (none)) else (none)) else (none)) else (none)) else (none))) else (none))
theorem leveelaw08_known.mono : ∀ k, LeO (leveelaw08_known.f k ) (leveelaw08_known.f (k + 1) ) := by
 intro  k
 unfold leveelaw08_known.f
 repeat' first
   | (with_reducible exact dirent_Find.mono _ _ _)
   | (with_reducible exact dirent_Lay.mono _ _ _ _ _ _)
   | (with_reducible exact dirent_Name.mono _ _)
   | (with_reducible exact dirent_Put.mono _ _ _ _)
   | (with_reducible exact dirent_Room.mono _ _)
   | (with_reducible exact LeO.refl _)
   | (with_reducible exact LeO.none _)
   | (with_reducible refine LeO.ite ?_ ?_)
   | (with_reducible refine LeO.bind ?_ (fun _ => ?_))
   | exact dirent_Find.mono _ _ _
   | exact dirent_Lay.mono _ _ _ _ _ _
   | exact dirent_Name.mono _ _
   | exact dirent_Put.mono _ _ _ _
   | exact dirent_Room.mono _ _
   | exact LeO.none _
   | refine LeO.ite ?_ ?_
   | refine LeO.bind ?_ (fun _ => ?_)
def leveelaw08_known.T3 : Bool × List (List Nat × List Nat) := (true, [([], []), ([], []), ([0, 1], [0, 1]), ([2], [2]), ([3], [3]), ([3], [3]), ([4, 2, 0, 1, 2, 3, 4], [4]), ([5, 6, 0, 1, 2, 3, 4, 5, 6], [5])])
def leveelaw08_known.B3 : List Nat := [0, 0, 3, 7, 15, 15, 31, 127]
theorem leveelaw08_known.tab3 : rtab .any (opsOf Try.f14 3) = leveelaw08_known.T3 := by kernel_rfl
theorem leveelaw08_known.bits3 : waitsOk leveelaw08_known.T3.2 leveelaw08_known.B3 = true := by kernel_rfl
set_option maxHeartbeats 8000000 in
set_option maxRecDepth 100000 in
theorem leveelaw08_known.calls (k : Nat)  (r : Bool) (w : World) (h : leveelaw08_known.f k  = some r) :
  Calls Try.prog 14 #[] w fun e w' => e = .returned (.bool r) ∧ Below w.heap.size w w' := by
 have hu23 := Try.underlying23
 have HB := Aside0.mk (Below.refl w.heap.size w)
 have H : ((dirent_Put.f k 5 false (⟨#[97]⟩ : ByteArray)).bind fun bt164 => (if 256 ≤ 281474976710656 then ((dirent_Lay.f k (List.replicate 256 0) 3 5 false (⟨#[97]⟩ : ByteArray)).bind fun bt171 => (if bt164.2 = 0 then (if (bt164.1.length : Int) = 32 then (if 6 ≤ (bt164.1.length : Int) then (if (strOfNums (bt164.1.take 6)).toList = ([5, 0, 0, 1, 97, 0] : List UInt8) then (if bt171.2 = 0 then ((dirent_Find.f k bt171.1 (⟨#[97]⟩ : ByteArray)).bind fun t179 => (if t179 = 3 then ((dirent_Room.f k bt171.1).bind fun t180 => (if t180 = 0 then ((dirent_Name.f k (⟨#[97]⟩ : ByteArray)).bind fun t181 => (if t181 = true then ((dirent_Name.f k (⟨#[46, 46]⟩ : ByteArray)).bind fun t182 => (some (!t182))) else (none))) else (none))) else (none))) else (none)) else (none)) else (none)) else (none)) else (none))) else (none))) = some r := h
 clear h
 replace H := Option.bind_eq_some_iff.mp H
 obtain ⟨⟨t164, t167⟩, A10, H⟩ := H
 replace H : (if 256 ≤ 281474976710656 then ((dirent_Lay.f k (List.replicate 256 0) 3 5 false (⟨#[97]⟩ : ByteArray)).bind fun bt171 => (if t167 = 0 then (if (t164.length : Int) = 32 then (if 6 ≤ (t164.length : Int) then (if (strOfNums (t164.take 6)).toList = ([5, 0, 0, 1, 97, 0] : List UInt8) then (if bt171.2 = 0 then ((dirent_Find.f k bt171.1 (⟨#[97]⟩ : ByteArray)).bind fun t179 => (if t179 = 3 then ((dirent_Room.f k bt171.1).bind fun t180 => (if t180 = 0 then ((dirent_Name.f k (⟨#[97]⟩ : ByteArray)).bind fun t181 => (if t181 = true then ((dirent_Name.f k (⟨#[46, 46]⟩ : ByteArray)).bind fun t182 => (some (!t182))) else (none))) else (none))) else (none))) else (none)) else (none)) else (none)) else (none)) else (none))) else (none)) = some r := H
 have A1 := Aside0.mk A10
 clear A10
 by_cases c2 : 256 ≤ 281474976710656
 ·rw [if_pos c2] at H
  have c2b0 := eq_true c2
  have c2b1 : decide (256 ≤ 281474976710656) = true := decide_eq_true c2
  clear c2
  obtain ⟨y168, hy168⟩ : ∃ y_ : List Int, y_ = (List.replicate 256 0) := ⟨_, rfl⟩
  replace H : ((dirent_Lay.f k y168 3 5 false (⟨#[97]⟩ : ByteArray)).bind fun bt171 => (if t167 = 0 then (if (t164.length : Int) = 32 then (if 6 ≤ (t164.length : Int) then (if (strOfNums (t164.take 6)).toList = ([5, 0, 0, 1, 97, 0] : List UInt8) then (if bt171.2 = 0 then ((dirent_Find.f k bt171.1 (⟨#[97]⟩ : ByteArray)).bind fun t179 => (if t179 = 3 then ((dirent_Room.f k bt171.1).bind fun t180 => (if t180 = 0 then ((dirent_Name.f k (⟨#[97]⟩ : ByteArray)).bind fun t181 => (if t181 = true then ((dirent_Name.f k (⟨#[46, 46]⟩ : ByteArray)).bind fun t182 => (some (!t182))) else (none))) else (none))) else (none))) else (none)) else (none)) else (none)) else (none)) else (none))) = some r := by first | (rw [hy168]; with_reducible exact H) | (have H2_ := (Option.bind_some _ _).symm.trans H; rw [hy168]; with_reducible exact H2_) | (have H2_ := (Option.bind_some _ _).symm.trans H; with_reducible exact H2_) | with_reducible exact H | (rw [hy168]; exact H) | exact H
  have Ny168 := Aside0.mk hy168
  clear hy168
  replace H := Option.bind_eq_some_iff.mp H
  obtain ⟨⟨t171, t174⟩, A30, H⟩ := H
  replace H : (if t167 = 0 then (if (t164.length : Int) = 32 then (if 6 ≤ (t164.length : Int) then (if (strOfNums (t164.take 6)).toList = ([5, 0, 0, 1, 97, 0] : List UInt8) then (if t174 = 0 then ((dirent_Find.f k t171 (⟨#[97]⟩ : ByteArray)).bind fun t179 => (if t179 = 3 then ((dirent_Room.f k t171).bind fun t180 => (if t180 = 0 then ((dirent_Name.f k (⟨#[97]⟩ : ByteArray)).bind fun t181 => (if t181 = true then ((dirent_Name.f k (⟨#[46, 46]⟩ : ByteArray)).bind fun t182 => (some (!t182))) else (none))) else (none))) else (none))) else (none)) else (none)) else (none)) else (none)) else (none)) = some r := H
  have A3 := Aside0.mk A30
  clear A30
  by_cases c4 : t167 = 0
  ·rw [if_pos c4] at H
   have c4b0 : (t167 == 0) = true := beq_iff_eq.mpr c4
   have c4b1 : (t167 != 0) = false := bne_eq_false_iff_eq.mpr c4
   clear c4
   by_cases c5 : (t164.length : Int) = 32
   ·rw [if_pos c5] at H
    have c5b0 : ((t164.length : Int) == 32) = true := beq_iff_eq.mpr c5
    have c5b1 : ((t164.length : Int) != 32) = false := bne_eq_false_iff_eq.mpr c5
    clear c5
    by_cases c6 : 6 ≤ (t164.length : Int)
    ·rw [if_pos c6] at H
     have c6b0 := eq_true c6
     have c6b1 : decide (6 ≤ (t164.length : Int)) = true := decide_eq_true c6
     clear c6
     obtain ⟨y175, hy175⟩ : ∃ y_ : List Int, y_ = (t164.take 6) := ⟨_, rfl⟩
     replace H : (if (strOfNums y175).toList = ([5, 0, 0, 1, 97, 0] : List UInt8) then (if t174 = 0 then ((dirent_Find.f k t171 (⟨#[97]⟩ : ByteArray)).bind fun t179 => (if t179 = 3 then ((dirent_Room.f k t171).bind fun t180 => (if t180 = 0 then ((dirent_Name.f k (⟨#[97]⟩ : ByteArray)).bind fun t181 => (if t181 = true then ((dirent_Name.f k (⟨#[46, 46]⟩ : ByteArray)).bind fun t182 => (some (!t182))) else (none))) else (none))) else (none))) else (none)) else (none)) = some r := by first | (rw [hy175]; with_reducible exact H) | (have H2_ := (Option.bind_some _ _).symm.trans H; rw [hy175]; with_reducible exact H2_) | (have H2_ := (Option.bind_some _ _).symm.trans H; with_reducible exact H2_) | with_reducible exact H | (rw [hy175]; exact H) | exact H
     have Ny175 := Aside0.mk hy175
     clear hy175
     by_cases c7 : (strOfNums y175).toList = ([5, 0, 0, 1, 97, 0] : List UInt8)
     ·rw [if_pos c7] at H
      have c7b0 : ((strOfNums y175).toList == ([5, 0, 0, 1, 97, 0] : List UInt8)) = true := beq_iff_eq.mpr c7
      have c7b1 : ((strOfNums y175).toList != ([5, 0, 0, 1, 97, 0] : List UInt8)) = false := bne_eq_false_iff_eq.mpr c7
      clear c7
      by_cases c8 : t174 = 0
      ·rw [if_pos c8] at H
       have c8b0 : (t174 == 0) = true := beq_iff_eq.mpr c8
       have c8b1 : (t174 != 0) = false := bne_eq_false_iff_eq.mpr c8
       clear c8
       replace H := Option.bind_eq_some_iff.mp H
       obtain ⟨t179, A90, H⟩ := H
       replace H : (if t179 = 3 then ((dirent_Room.f k t171).bind fun t180 => (if t180 = 0 then ((dirent_Name.f k (⟨#[97]⟩ : ByteArray)).bind fun t181 => (if t181 = true then ((dirent_Name.f k (⟨#[46, 46]⟩ : ByteArray)).bind fun t182 => (some (!t182))) else (none))) else (none))) else (none)) = some r := H
       have A9 := Aside0.mk A90
       clear A90
       by_cases c10 : t179 = 3
       ·rw [if_pos c10] at H
        have c10b0 : (t179 == 3) = true := beq_iff_eq.mpr c10
        have c10b1 : (t179 != 3) = false := bne_eq_false_iff_eq.mpr c10
        clear c10
        replace H := Option.bind_eq_some_iff.mp H
        obtain ⟨t180, A110, H⟩ := H
        replace H : (if t180 = 0 then ((dirent_Name.f k (⟨#[97]⟩ : ByteArray)).bind fun t181 => (if t181 = true then ((dirent_Name.f k (⟨#[46, 46]⟩ : ByteArray)).bind fun t182 => (some (!t182))) else (none))) else (none)) = some r := H
        have A11 := Aside0.mk A110
        clear A110
        by_cases c12 : t180 = 0
        ·rw [if_pos c12] at H
         have c12b0 : (t180 == 0) = true := beq_iff_eq.mpr c12
         have c12b1 : (t180 != 0) = false := bne_eq_false_iff_eq.mpr c12
         clear c12
         replace H := Option.bind_eq_some_iff.mp H
         obtain ⟨t181, A130, H⟩ := H
         replace H : (if t181 = true then ((dirent_Name.f k (⟨#[46, 46]⟩ : ByteArray)).bind fun t182 => (some (!t182))) else (none)) = some r := H
         have A13 := Aside0.mk A130
         clear A130
         by_cases c14 : t181 = true
         ·subst c14
          have H1 : ((dirent_Name.f k (⟨#[46, 46]⟩ : ByteArray)).bind fun t182 => (some (!t182))) = some r := by rw [if_pos rfl] at H; exact H
          clear H
          have H := H1
          clear H1
          replace H := Option.bind_eq_some_iff.mp H
          obtain ⟨t182, A150, H⟩ := H
          replace H : (some (!t182)) = some r := H
          have A15 := Aside0.mk A150
          clear A150
          obtain rfl := Option.some.inj H
          go_enter Try.func14, Try.ntmps14
          try go_wp2_with (first | ((with_reducible refine gate_dst (N := 1) rfl ?_); (try (refine gate_guard (by rfl) ?_; dsimp only)); refine box_event ?hg (N := 1) ?hd (cs := #[.int .i64 0, .bool false, .string (⟨#[]⟩ : ByteArray)]) (t := 23) ?hr ?_; (case hd => rfl); (case hg => rfl); (case hr => first | (go_simp; done) | (go_simp; rfl)); intro gb163 hg w16 hbox hb; have n0_ := Aside0.mk (below_step (by repeat (first | (with_reducible first | exact HB.out | apply below_alloc | apply pw_below_drewN | apply below_drew1) | exact HB.out)) hb); have n1_ := Aside0.mk (hbox); have n2_ := Aside0.mk ((by rw [hg]; exact (below_size (by repeat (first | (with_reducible first | exact HB.out | apply below_alloc | apply pw_below_drewN | apply below_drew1) | exact HB.out))) : w.heap.size ≤ gb163)); have n3_ := Aside0.mk ((by rw [hg]; exact (below_size (by repeat (first | (with_reducible first | exact HB.out | apply below_alloc | apply pw_below_drewN | apply below_drew1) | exact HB.out))) : w.heap.size ≤ gb163)); clear HB; have HB := n0_; have BK163 := n1_; have GW163 := n2_; have GE163 := n3_; clear n0_ n1_ n2_ n3_; clear hb hbox hg; have q_ := cells3 BK163.out; have hcz17_0 := q_.c0; have hcz17_1 := q_.c1; have hcz17_2 := q_.c2; have hfz17_0 := q_.f0; have hfz17_1 := q_.f1; have hfz17_2 := q_.f2; clear q_) | ((with_reducible refine gate_callee (f := 6) rfl ?_); refine goesL_ (some 9) rfl rfl Try.func6 (by kernel_rfl) rfl #[.agg #[.int .i64 5, .bool false, .string (⟨#[97]⟩ : ByteArray)]] rfl (by (try simp only [List.map_toArray, List.map_cons, List.map_nil]); first | done | rfl | (simp only [List.length_drop, List.length_take]; rfl)) ?_; (with_reducible refine (dirent_Put.calls k 5 false (⟨#[97]⟩ : ByteArray) t164 t167 _ A1.out).mono ?_); rintro e w18 ⟨v165, rfl, ho0, hb⟩; refine ⟨_, rfl, ?_⟩; have n0_ := Aside0.mk (Kd.R_lower ho0 (below_size (by repeat (first | (with_reducible first | exact HB.out | apply below_alloc | apply pw_below_drewN | apply below_drew1 | refine below_set ?_ GE163.out) | exact HB.out)))); have n1_ := Aside0.mk (blk_below (g := gb163) (o := .cells #[.int .i64 5, .bool false, .string (⟨#[97]⟩ : ByteArray)] 23 (0, 0)) (by (with_reducible repeat (first | refine blk_drewN ?_ _ | refine blk_drew ?_ | refine blk_alloc ?_ _)); refine blk_put (cs := #[.int .i64 5, .bool false, .string (⟨#[]⟩ : ByteArray)]) ?_ 2 _ rfl; (with_reducible repeat (first | refine blk_drewN ?_ _ | refine blk_drew ?_ | refine blk_alloc ?_ _)); refine blk_put (cs := #[.int .i64 5, .bool false, .string (⟨#[]⟩ : ByteArray)]) ?_ 1 _ rfl; (with_reducible repeat (first | refine blk_drewN ?_ _ | refine blk_drew ?_ | refine blk_alloc ?_ _)); refine blk_put (cs := #[.int .i64 0, .bool false, .string (⟨#[]⟩ : ByteArray)]) ?_ 0 _ rfl; (with_reducible repeat (first | refine blk_drewN ?_ _ | refine blk_drew ?_ | refine blk_alloc ?_ _)); exact BK163.out) hb); have n2_ := Aside0.mk (below_step (by repeat (first | (with_reducible first | exact HB.out | apply below_alloc | apply pw_below_drewN | apply below_drew1 | refine below_set ?_ GE163.out) | exact HB.out)) hb); clear BK163; clear HB; have HO166 := n0_; have BK163 := n1_; have HB := n2_; clear n0_ n1_ n2_; (try clear hb); (try clear hb2); (try clear hk); (try clear hi); (try clear ho0)))
          have n0_ := Aside0.mk (Kd.R_drew HO166.out)
          have n1_ := Aside0.mk (blk_drew BK163.out)
          have n2_ := Aside0.mk (below_drew1 HB.out)
          clear HO166
          clear BK163
          clear HB
          have HO166 := n0_
          have BK163 := n1_
          have HB := n2_
          clear n0_ n1_ n2_
          refine start_ (n := 8) (S := fun w' => w'.cell? ⟨gb163, 0, none⟩ = some (.int .i64 5) ∧ w'.cell? ⟨gb163, 1, none⟩ = some (.bool false) ∧ w'.cell? ⟨gb163, 2, none⟩ = some (.string (⟨#[97]⟩ : ByteArray))) (ds := []) #[false, false, false, false, false, false, false, false] (by kernel_rfl) rfl rfl ⟨(blk_cell BK163.out 0).trans rfl, (blk_cell BK163.out 1).trans rfl, (blk_cell BK163.out 2).trans rfl⟩ (fun hHeld => ?_); refine with_tabW leveelaw08_known.tab3 leveelaw08_known.bits3 (fun HT_ HW_ => ?_)
          generalize w18.drew = w19 at HO166 BK163 HB hHeld ⊢
          refine take_ (i := 1) (N := some 14) (v := ?_) (a' := ?_) #[false, true, false, false, false, false, false, false] rfl rfl (take_ofW HT_.out HW_.out (by kernel_rfl)) (fun _ _ _ h => h) (Or.inl ⟨by rfl, ?_⟩) hHeld ?_ ?_
          rotate_left
          ·rintro w' ⟨s0, s1, s2⟩
           go_simp
           with_reducible rfl
          rotate_left
          ·simp only [Act.put, List.setIfInBounds_toArray, List.set_cons_zero, List.set_cons_succ, i64_w, i32_w]
           rfl
          refine one_ (i := 0) (N := some 13) #[true, true, false, false, false, false, false, false] rfl rfl (one_of HT_.out (by kernel_rfl)) (by decide) (fun K hK => ?_)
          refine Kd.R_make_step (Kd.int .u8) _ 5 (by rfl) (N := 13) rfl 24 _ _ rfl 256 rfl rfl Try.underlying24 (.int .u8 0) 1 info5 rfl (by decide) (by omega) 0 (ok := fun _ => True) (okp := fun _ => True) rfl (fun _ hk => hk) trivial (by omega) (by omega) (Below.refl _ _) (Nat.le_refl _) ?_
          intro v169 w20 ho21 hb hg_ hnew_
          clear hg_ hnew_
          (first | rw [← Ny168.out] at ho21 | (simp only [Int.reduceToNat] at ho21; rw [← Ny168.out] at ho21))
          have n0_ := Aside0.mk (Kd.R_elder' (by (with_reducible repeat (first | apply Kd.R_alloc | apply Kd.R_drewN | apply Kd.R_drew)); exact HO166.out) (Kd.R_base ho21) hb)
          have n1_ := Aside0.mk (Kd.R_lower (Kd.R_new' ho21 (Kd.R_lt (by (with_reducible repeat (first | apply Kd.R_alloc | apply Kd.R_drewN | apply Kd.R_drew)); exact HO166.out))) (below_size (by repeat (first | (with_reducible first | exact HB.out | apply below_alloc | apply pw_below_drewN | apply below_drew1 | refine below_set ?_ GE163.out) | exact HB.out))))
          have n2_ := Aside0.mk (blk_below (g := gb163) (o := .cells #[.int .i64 5, .bool false, .string (⟨#[97]⟩ : ByteArray)] 23 (0, 0)) (by (with_reducible repeat (first | refine blk_drewN ?_ _ | refine blk_drew ?_ | refine blk_alloc ?_ _)); exact BK163.out) hb)
          have n3_ := Aside0.mk (below_step (by repeat (first | (with_reducible first | exact HB.out | apply below_alloc | apply pw_below_drewN | apply below_drew1 | refine below_set ?_ GE163.out) | exact HB.out)) hb)
          clear HO166
          clear BK163
          clear HB
          have HO166 := n0_
          have HO170 := n1_
          have BK163 := n2_
          have HB := n3_
          clear n0_ n1_ n2_ n3_
          clear hb ho21
          obtain ⟨Ao22, co22, eo22⟩ := Kd.R_slice HO170.out
          (first | subst eo22 | (injection eo22 with f1_ f2_ f3_; have f4_ := f1_.symm; have f5_ := f3_.symm; clear f1_ f2_ f3_; subst f4_; subst f5_))
          refine hK.out _ _ ⟨(blk_cell BK163.out 0).trans rfl, (blk_cell BK163.out 1).trans rfl, (blk_cell BK163.out 2).trans rfl⟩ (fun hHeld => ?_)
          clear hK K
          refine norm_ (a' := ?_) ?_ ?_
          rotate_left
          ·show Act.put _ (some 13) _ = _
           simp only [Act.put, List.setIfInBounds_toArray, List.set_cons_zero, List.set_cons_succ, i64_w, i32_w]
           rfl
          refine one_ (i := 2) (N := some 15) #[true, true, true, false, false, false, false, false] rfl rfl (one_of HT_.out (by kernel_rfl)) (by decide) (fun K hK => ?_)
          refine goes_ Try.func15 (by kernel_rfl) rfl #[.slice Ao22 y168.length co22, .int .i64 3, .agg #[.int .i64 5, .bool false, .string (⟨#[97]⟩ : ByteArray)]] (by rfl) rfl rfl (by (try simp only [List.map_toArray, List.map_cons, List.map_nil]); first | done | rfl | (simp only [List.length_drop, List.length_take]; rfl)) ?_
          with_reducible refine (dirent_Lay.calls k _ _ y168 3 5 false (⟨#[97]⟩ : ByteArray) t171 t174 _ ?side1 ?side2 A3.out).mono ?_
          (case side1 => repeat (first | exact (Kd.R_reads' HO170.out).2.2 | (with_reducible refine Kd.C_alloc ?_ _) | (with_reducible refine Kd.C_drewN ?_ _) | (with_reducible refine Kd.C_drew ?_)))
          (case side2 => exact (Kd.R_reads' HO170.out).2.1)
          rintro e w23 ⟨v172, rfl, ho0, hb⟩
          refine ⟨_, rfl, ?_⟩
          have n0_ := Aside0.mk (Kd.R_elder' (by (with_reducible repeat (first | apply Kd.R_alloc | apply Kd.R_drewN | apply Kd.R_drew)); exact HO166.out) (Kd.R_base ho0) hb)
          have n1_ := Aside0.mk (Kd.R_elder' (by (with_reducible repeat (first | apply Kd.R_alloc | apply Kd.R_drewN | apply Kd.R_drew)); exact HO170.out) (Kd.R_base ho0) hb)
          have n2_ := Aside0.mk (Kd.R_lower (Kd.R_new' (Kd.R_new' ho0 (Kd.R_lt (by (with_reducible repeat (first | apply Kd.R_alloc | apply Kd.R_drewN | apply Kd.R_drew)); exact HO166.out))) (Kd.R_lt (by (with_reducible repeat (first | apply Kd.R_alloc | apply Kd.R_drewN | apply Kd.R_drew)); exact HO170.out))) (below_size (by repeat (first | (with_reducible first | exact HB.out | apply below_alloc | apply pw_below_drewN | apply below_drew1 | refine below_set ?_ GE163.out) | exact HB.out))))
          have n3_ := Aside0.mk (blk_below (g := gb163) (o := .cells #[.int .i64 5, .bool false, .string (⟨#[97]⟩ : ByteArray)] 23 (0, 0)) (by (with_reducible repeat (first | refine blk_drewN ?_ _ | refine blk_drew ?_ | refine blk_alloc ?_ _)); exact BK163.out) hb)
          have n4_ := Aside0.mk (below_step (by repeat (first | (with_reducible first | exact HB.out | apply below_alloc | apply pw_below_drewN | apply below_drew1 | refine below_set ?_ GE163.out) | exact HB.out)) hb)
          clear HO166
          clear HO170
          clear BK163
          clear HB
          have HO166 := n0_
          have HO170 := n1_
          have HO173 := n2_
          have BK163 := n3_
          have HB := n4_
          clear n0_ n1_ n2_ n3_ n4_
          (try clear hb)
          (try clear hb2)
          (try clear hk)
          (try clear hi)
          (try clear ho0)
          refine hK.out _ _ ⟨(blk_cell BK163.out 0).trans rfl, (blk_cell BK163.out 1).trans rfl, (blk_cell BK163.out 2).trans rfl⟩ (fun hHeld => ?_)
          clear hK K
          refine norm_ (a' := ?_) ?_ ?_
          rotate_left
          ·show Act.put _ (some 15) _ = _
           simp only [Act.put, List.setIfInBounds_toArray, List.set_cons_zero, List.set_cons_succ, i64_w, i32_w]
           rfl
          refine pure_ (i := 3) (N := some 12) (v := ?_) (a' := ?_) #[true, true, true, true, false, false, false, false] rfl rfl (any_of HT_.out (by kernel_rfl)) (fun _ _ _ h => h) (Or.inl ⟨by rfl, ?_⟩) ?_ ?_
          rotate_left
          ·intro w'
           go_simp
           with_reducible rfl
          rotate_left
          ·simp only [Act.put, List.setIfInBounds_toArray, List.set_cons_zero, List.set_cons_succ, i64_w, i32_w]
           rfl
          refine pure_ (i := 4) (N := some 16) (v := ?_) (a' := ?_) #[true, true, true, true, true, false, false, false] rfl rfl (any_of HT_.out (by kernel_rfl)) (fun _ _ _ h => h) (Or.inl ⟨by rfl, ?_⟩) ?_ ?_
          rotate_left
          ·intro w'
           go_simp
           with_reducible rfl
          rotate_left
          ·simp only [Act.put, List.setIfInBounds_toArray, List.set_cons_zero, List.set_cons_succ, i64_w, i32_w]
           rfl
          refine pure_ (i := 5) (N := some 17) (v := ?_) (a' := ?_) #[true, true, true, true, true, true, false, false] rfl rfl (any_of HT_.out (by kernel_rfl)) (fun _ _ _ h => h) (Or.inl ⟨by rfl, ?_⟩) ?_ ?_
          rotate_left
          ·intro w'
           go_simp
           with_reducible rfl
          rotate_left
          ·simp only [Act.put, List.setIfInBounds_toArray, List.set_cons_zero, List.set_cons_succ, i64_w, i32_w]
           rfl
          refine pure_ (i := 6) (N := some 4) (v := ?_) (a' := ?_) #[true, true, true, true, true, true, true, false] rfl rfl (any_of HT_.out (by kernel_rfl)) (fun _ _ _ h => h) (Or.inl ⟨by rfl, ?_⟩) ?_ ?_
          rotate_left
          ·intro w'
           go_simp
           with_reducible rfl
          rotate_left
          ·simp only [Act.put, List.setIfInBounds_toArray, List.set_cons_zero, List.set_cons_succ, i64_w, i32_w]
           rfl
          refine pure_ (i := 7) (N := some 5) (v := ?_) (a' := ?_) #[true, true, true, true, true, true, true, true] rfl rfl (any_of HT_.out (by kernel_rfl)) (fun _ _ _ h => h) (Or.inl ⟨by rfl, ?_⟩) ?_ ?_
          rotate_left
          ·intro w'
           go_simp
           with_reducible rfl
          rotate_left
          ·simp only [Act.put, List.setIfInBounds_toArray, List.set_cons_zero, List.set_cons_succ, i64_w, i32_w]
           rfl
          refine done_ (done_of HT_.out (by kernel_rfl)) ?_
          obtain ⟨Ao24, co24, eo24⟩ := Kd.R_slice HO166.out
          subst eo24
          have q25 : (6 : Int) ≤ ((t164.length : Int) : Int) := of_decide_eq_true (by first | (with_reducible assumption) | assumption)
          obtain ⟨i025, hi025, _, hsz25, _⟩ := info_parts info5
          have hroom25 : t164.length ≤ co24 := (Kd.R_reads' HO166.out).2.1
          have hC25 : Kd.C (Kd.int .u8) _ Ao24 t164.length t164 := (Kd.R_reads' HO166.out).2.2
          have hcut25 := cut_to (P := Try.prog) 24 5 .i64 Try.underlying24 hi025 Ao24 t164.length co24 6 (by omega) q25 hroom25
          have hr25 := Kd.C_take (m := 6) hC25 (by omega)
          have hy25 : y175.length = (6 : Int).toNat := (by rw [Ny175.out, List.length_take]; omega)
          rw [← Ny175.out] at hr25
          rw [← hy25] at hcut25
          have HR178 := Aside0.mk hr25
          have HC178 := Aside0.mk (show y175.length ≤ co24 from by omega)
          clear hr25 hC25 hroom25 hi025 hsz25
          have KY25 := Aside0.mk hy25
          clear hy25
          have KL25 := Aside0.mk (show 6 ≤ t164.length from by omega)
          replace q25 := eq_true q25
          have hcv26 := Kd.C_string (P := Try.prog) (A := Ao24) (c := co24) Try.underlying24 Try.underlying5 Try.underlying9 (by repeat (first | (with_reducible exact HR178.out) | (with_reducible refine Kd.C_alloc ?_ _) | (with_reducible refine Kd.C_drewN ?_ _) | (with_reducible refine Kd.C_drew ?_) | exact HR178.out)); (try (have hcv26s := hcv26; simp only [List.length_take, List.length_drop, Int.reduceToNat] at hcv26s; try (have hcv26m := hcv26; simp only [List.length_take, List.length_drop, Int.reduceToNat, Nat.min_eq_left, Int.toNat_le, *, -hcv26, -hcv26s] at hcv26m)))
          obtain ⟨Ao27, co27, eo27⟩ := Kd.R_slice HO173.out
          subst eo27
          try go_wp2_with (first | (go_at_call 18; (with_reducible refine (dirent_Find.calls k _ _ t171 (⟨#[97]⟩ : ByteArray) t179 _ ?side1 ?side2 A9.out).mono ?_); (case side1 => repeat (first | exact (Kd.R_reads' HO173.out).2.2 | (with_reducible refine Kd.C_alloc ?_ _) | (with_reducible refine Kd.C_drewN ?_ _) | (with_reducible refine Kd.C_drew ?_))); (case side2 => exact (Kd.R_reads' HO173.out).2.1); rintro e w28 ⟨rfl, hb⟩; have n0_ := Aside0.mk (Kd.R_below (by (with_reducible repeat (first | apply Kd.R_alloc | apply Kd.R_drewN | apply Kd.R_drew)); exact HO166.out) hb); have n1_ := Aside0.mk (Kd.R_below (by (with_reducible repeat (first | apply Kd.R_alloc | apply Kd.R_drewN | apply Kd.R_drew)); exact HO170.out) hb); have n2_ := Aside0.mk (Kd.R_below (by (with_reducible repeat (first | apply Kd.R_alloc | apply Kd.R_drewN | apply Kd.R_drew)); exact HO173.out) hb); have n3_ := Aside0.mk (blk_below (g := gb163) (o := .cells #[.int .i64 5, .bool false, .string (⟨#[97]⟩ : ByteArray)] 23 (0, 0)) (by (with_reducible repeat (first | refine blk_drewN ?_ _ | refine blk_drew ?_ | refine blk_alloc ?_ _)); exact BK163.out) hb); have n4_ := Aside0.mk (Kd.C_below (by repeat (first | (with_reducible exact HR178.out) | (with_reducible refine Kd.C_alloc ?_ _) | (with_reducible refine Kd.C_drewN ?_ _) | (with_reducible refine Kd.C_drew ?_) | exact HR178.out)) hb); have n5_ := Aside0.mk (below_step (by repeat (first | (with_reducible first | exact HB.out | apply below_alloc | apply pw_below_drewN | apply below_drew1 | refine below_set ?_ GE163.out) | exact HB.out)) hb); clear HO166; clear HO170; clear HO173; clear BK163; clear HR178; clear HB; have HO166 := n0_; have HO170 := n1_; have HO173 := n2_; have BK163 := n3_; have HR178 := n4_; have HB := n5_; clear n0_ n1_ n2_ n3_ n4_ n5_; (try clear hb); (try clear hb2); (try clear hk); (try clear hi)) | (go_at_call 26; (with_reducible refine (dirent_Room.calls k _ _ t171 t180 _ ?side1 ?side2 A11.out).mono ?_); (case side1 => repeat (first | exact (Kd.R_reads' HO173.out).2.2 | (with_reducible refine Kd.C_alloc ?_ _) | (with_reducible refine Kd.C_drewN ?_ _) | (with_reducible refine Kd.C_drew ?_))); (case side2 => exact (Kd.R_reads' HO173.out).2.1); rintro e w29 ⟨rfl, hb⟩; have n0_ := Aside0.mk (Kd.R_below (by (with_reducible repeat (first | apply Kd.R_alloc | apply Kd.R_drewN | apply Kd.R_drew)); exact HO166.out) hb); have n1_ := Aside0.mk (Kd.R_below (by (with_reducible repeat (first | apply Kd.R_alloc | apply Kd.R_drewN | apply Kd.R_drew)); exact HO170.out) hb); have n2_ := Aside0.mk (Kd.R_below (by (with_reducible repeat (first | apply Kd.R_alloc | apply Kd.R_drewN | apply Kd.R_drew)); exact HO173.out) hb); have n3_ := Aside0.mk (blk_below (g := gb163) (o := .cells #[.int .i64 5, .bool false, .string (⟨#[97]⟩ : ByteArray)] 23 (0, 0)) (by (with_reducible repeat (first | refine blk_drewN ?_ _ | refine blk_drew ?_ | refine blk_alloc ?_ _)); exact BK163.out) hb); have n4_ := Aside0.mk (Kd.C_below (by repeat (first | (with_reducible exact HR178.out) | (with_reducible refine Kd.C_alloc ?_ _) | (with_reducible refine Kd.C_drewN ?_ _) | (with_reducible refine Kd.C_drew ?_) | exact HR178.out)) hb); have n5_ := Aside0.mk (below_step (by repeat (first | (with_reducible first | exact HB.out | apply below_alloc | apply pw_below_drewN | apply below_drew1 | refine below_set ?_ GE163.out) | exact HB.out)) hb); clear HO166; clear HO170; clear HO173; clear BK163; clear HR178; clear HB; have HO166 := n0_; have HO170 := n1_; have HO173 := n2_; have BK163 := n3_; have HR178 := n4_; have HB := n5_; clear n0_ n1_ n2_ n3_ n4_ n5_; (try clear hb); (try clear hb2); (try clear hk); (try clear hi)) | (go_at_call 11; (with_reducible refine (dirent_Name.calls k (⟨#[97]⟩ : ByteArray) true _ A13.out).mono ?_); rintro e w30 ⟨rfl, hb⟩; have n0_ := Aside0.mk (Kd.R_below (by (with_reducible repeat (first | apply Kd.R_alloc | apply Kd.R_drewN | apply Kd.R_drew)); exact HO166.out) hb); have n1_ := Aside0.mk (Kd.R_below (by (with_reducible repeat (first | apply Kd.R_alloc | apply Kd.R_drewN | apply Kd.R_drew)); exact HO170.out) hb); have n2_ := Aside0.mk (Kd.R_below (by (with_reducible repeat (first | apply Kd.R_alloc | apply Kd.R_drewN | apply Kd.R_drew)); exact HO173.out) hb); have n3_ := Aside0.mk (blk_below (g := gb163) (o := .cells #[.int .i64 5, .bool false, .string (⟨#[97]⟩ : ByteArray)] 23 (0, 0)) (by (with_reducible repeat (first | refine blk_drewN ?_ _ | refine blk_drew ?_ | refine blk_alloc ?_ _)); exact BK163.out) hb); have n4_ := Aside0.mk (Kd.C_below (by repeat (first | (with_reducible exact HR178.out) | (with_reducible refine Kd.C_alloc ?_ _) | (with_reducible refine Kd.C_drewN ?_ _) | (with_reducible refine Kd.C_drew ?_) | exact HR178.out)) hb); have n5_ := Aside0.mk (below_step (by repeat (first | (with_reducible first | exact HB.out | apply below_alloc | apply pw_below_drewN | apply below_drew1 | refine below_set ?_ GE163.out) | exact HB.out)) hb); clear HO166; clear HO170; clear HO173; clear BK163; clear HR178; clear HB; have HO166 := n0_; have HO170 := n1_; have HO173 := n2_; have BK163 := n3_; have HR178 := n4_; have HB := n5_; clear n0_ n1_ n2_ n3_ n4_ n5_; (try clear hb); (try clear hb2); (try clear hk); (try clear hi)) | (go_at_call 11; (with_reducible refine (dirent_Name.calls k (⟨#[46, 46]⟩ : ByteArray) t182 _ A15.out).mono ?_); rintro e w31 ⟨rfl, hb⟩; have n0_ := Aside0.mk (Kd.R_below (by (with_reducible repeat (first | apply Kd.R_alloc | apply Kd.R_drewN | apply Kd.R_drew)); exact HO166.out) hb); have n1_ := Aside0.mk (Kd.R_below (by (with_reducible repeat (first | apply Kd.R_alloc | apply Kd.R_drewN | apply Kd.R_drew)); exact HO170.out) hb); have n2_ := Aside0.mk (Kd.R_below (by (with_reducible repeat (first | apply Kd.R_alloc | apply Kd.R_drewN | apply Kd.R_drew)); exact HO173.out) hb); have n3_ := Aside0.mk (blk_below (g := gb163) (o := .cells #[.int .i64 5, .bool false, .string (⟨#[97]⟩ : ByteArray)] 23 (0, 0)) (by (with_reducible repeat (first | refine blk_drewN ?_ _ | refine blk_drew ?_ | refine blk_alloc ?_ _)); exact BK163.out) hb); have n4_ := Aside0.mk (Kd.C_below (by repeat (first | (with_reducible exact HR178.out) | (with_reducible refine Kd.C_alloc ?_ _) | (with_reducible refine Kd.C_drewN ?_ _) | (with_reducible refine Kd.C_drew ?_) | exact HR178.out)) hb); have n5_ := Aside0.mk (below_step (by repeat (first | (with_reducible first | exact HB.out | apply below_alloc | apply pw_below_drewN | apply below_drew1 | refine below_set ?_ GE163.out) | exact HB.out)) hb); clear HO166; clear HO170; clear HO173; clear BK163; clear HR178; clear HB; have HO166 := n0_; have HO170 := n1_; have HO173 := n2_; have BK163 := n3_; have HR178 := n4_; have HB := n5_; clear n0_ n1_ n2_ n3_ n4_ n5_; (try clear hb); (try clear hb2); (try clear hk); (try clear hi)))
          go_ret
          exact ⟨by first | rfl | (simp [errW_none, errW_some] <;> rfl) | (simp [*, errW_none, errW_some] <;> rfl), by repeat (first | (with_reducible first | exact HB.out | apply below_alloc | apply pw_below_drewN | apply below_drew1 | refine below_set ?_ GE163.out) | exact HB.out)⟩
         ·replace c14 := Bool.eq_false_iff.mpr c14
          subst c14
          have H1 : (none) = some r := by rw [if_neg (show ¬ (false = true) by decide)] at H; exact H
          clear H
          have H := H1
          clear H1
          exact absurd H (by simp)
        ·rw [if_neg c12] at H
         exact absurd H (by simp)
       ·rw [if_neg c10] at H
        exact absurd H (by simp)
      ·rw [if_neg c8] at H
       exact absurd H (by simp)
     ·rw [if_neg c7] at H
      exact absurd H (by simp)
    ·rw [if_neg c6] at H
     exact absurd H (by simp)
   ·rw [if_neg c5] at H
    exact absurd H (by simp)
  ·rw [if_neg c4] at H
   exact absurd H (by simp)
 ·rw [if_neg c2] at H
  exact absurd H (by simp)

end Go.Proofs.Ytjlacfhmjjjpiaa.P
