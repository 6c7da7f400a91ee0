/-
image.Unpack, walked by hand.
Conditions: none.
-/
import Derived.Test.YtnlneiiccoakjaaHandImgRowsOf
namespace Go.Proofs.Ytnlneiiccoakjaa.P
open Go.RowKit Go.Proofs.YtnlneiiccoakjaaW.PrintWords Go.Proofs.YtnlneiiccoakjaaW.PrintLast Go.Proofs.YtnlneiiccoakjaaW.PrintMore
attribute [local go_sem] max2_int min2_int max_two min_two max_three min_three max_four min_four
set_option linter.unusedVariables false
set_option linter.unusedSimpArgs false
open Go.Proofs.Ytnlneiiccoakjaa.Num Go.Proofs.Ytnlneiiccoakjaa.Plain
def markL : List Int := [76, 73, 77, 71]
def unpackP (p : List Int) : List Int × Int :=
  if p.length < 10 then ([], 9)
  else if p.take 4 ≠ markL then ([], 8)
  else if getS (p.drop (p.length - 4)) ≠ Crc.sum (p.take (p.length - 4)) then ([], 7)
  else match rowsOf ((p.take (p.length - 4)).drop 6) with
    | none => ([], 8)
    | some l => if (blocksP l).2 ≠ 0 then ([], 8) else if (((blocksP l).1.length / 256 : Nat) : Int) ≠ getS ((p.take 6).drop 4) then ([], 8) else ((blocksP l).1, 0)
def image_Unpack.f (p : List Int) : Option (List Int × Int) := if bytesB p = true ∧ p.length ≤ 1099511627776 then some (unpackP p) else none
theorem rowsQ_bytes : ∀ (k : Nat) (q : List Int) (l : List S41), isBytes q → rowsQ k q = some l → ∀ r ∈ l, isBytes r.f2
  | _, [], l, _, h => by
    rw [rowsQ.eq_def] at h
    cases h
    intro r hr; cases hr
  | 0, _ :: _, l, _, h => by cases h
  | k + 1, b :: t, l, hb, h => by
    rw [rowsQ] at h
    have hd : ∀ n, isBytes ((b :: t).drop n) := fun n x hx => hb x (List.mem_of_mem_drop hx)
    split at h
    · cases h
    split at h
    · split at h
      · cases h
      · obtain ⟨l', h1, h2⟩ := Option.map_eq_some_iff.mp h
        subst h2
        intro r hr
        rcases List.mem_cons.mp hr with rfl | hr
        · exact fun x hx => hd 3 x (List.mem_of_mem_take hx)
        · exact rowsQ_bytes k _ l' (fun x hx => hd 3 x (List.mem_of_mem_drop hx)) h1 r hr
    · obtain ⟨l', h1, h2⟩ := Option.map_eq_some_iff.mp h
      subst h2
      intro r hr
      rcases List.mem_cons.mp hr with rfl | hr
      · exact fun x hx => absurd hx (by simp)
      · exact rowsQ_bytes k _ l' (hd 3) h1 r hr
theorem blocksP_len {l : List S41} {b : List Int} {e : Int} (h : blocksP l = (b, e)) : b.length ≤ 1048576 := by
  unfold blocksP at h
  split at h
  · injection h with h1 h2
    subst h1
    exact Nat.zero_le _
  · split at h
    · rename_i hd
      split at h
      · injection h with h1 h2
        subst h1
        unfold diskB at hd
        exact (of_decide_eq_true hd).2.2
      · injection h with h1 h2
        subst h1
        exact Nat.zero_le _
    · injection h with h1 h2
      subst h1
      exact Nat.zero_le _
theorem take_at (A : Option Addr) (n c m : Nat) (hc : m ≤ c) (W : World) : (Instr.slice 22 (.slice A n c) none (some (.int .i64 (m : Int))) none).run Try.prog W = .ok (.slice A m c) W := by
  obtain ⟨i0, hi, _, hsz, _⟩ := info_parts info5
  have hel : Try.prog.elem 22 = 5 := by simp [Program.elem, Try.underlying22]
  have hu : Try.prog.underlying 22 = some (.slice (Try.prog.elem 22)) := by rw [hel]; exact Try.underlying22
  have ha : (A.map fun x => x.add 0) = A := by cases A <;> simp [Addr.add]
  rw [run_slice_h W 22 A n c hu .i64 (m : Int) (by omega) (by omega), hel]
  simp [sizeOf, typeInfo, hi, hsz, sliced, Result.andThen, ha]
def image_Unpack.T6 : Bool × List (List Nat × List Nat) := (true, [([], []), ([], []), ([0, 1], [0, 1]), ([2], [2]), ([], []), ([], []), ([4, 5], [4, 5]), ([6, 3], [6]), ([7], [7]), ([3, 8], [3, 8]), ([9, 7], [9])])
def image_Unpack.B6 : List Nat := [0, 0, 3, 7, 0, 0, 48, 127, 255, 511, 1023]
theorem image_Unpack.tab6 : rtab .any (opsOf Try.f20 6) = image_Unpack.T6 := by kernel_rfl
theorem image_Unpack.bits6 : waitsOk image_Unpack.T6.2 image_Unpack.B6 = true := by kernel_rfl
set_option maxHeartbeats 16000000 in
set_option maxRecDepth 100000 in
theorem image_Unpack.calls (A0 : Option Addr) (c0 : Nat) (l0 : List Int) (r1 : List Int) (r2 : Int) (w : World) (hr0 : Kd.C (Kd.int .u8) w A0 l0.length l0) (hc0 : l0.length ≤ c0) (h : image_Unpack.f l0 = some (r1, r2)) :
    Calls Try.prog 20 #[.slice A0 l0.length c0] w fun e w' => ∃ v0_ : Value, e = .returned (.tuple #[v0_, .int .i64 r2]) ∧ Kd.R (Kd.int .u8) 5 w' w.heap.size (fun _ => True) v0_ r1 ∧ Below w.heap.size w w' := by
  unfold image_Unpack.f at h
  split at h
  case isFalse => exact absurd h (by simp)
  rename_i hg
  obtain ⟨hbb, hlen⟩ := hg
  have hbytes := bytesB_iff.mp hbb
  have h := Option.some.inj h
  have HB := Aside0.mk (Below.refl w.heap.size w)
  obtain ⟨n, hn⟩ : ∃ n, n = l0.length := ⟨_, rfl⟩
  have HN : Aside0 (n = l0.length ∧ n ≤ 1099511627776 ∧ n ≤ c0) := ⟨by omega⟩
  unfold unpackP at h
  rw [← hn] at h ⊢
  by_cases h10 : n < 10
  · rw [if_pos h10] at h
    injection h with e1 e2
    subst e1
    subst e2
    clear hr0 hbb hbytes hlen hn hc0
    go_enter Try.func20, Try.ntmps20
    go_wp2
    go_ret2
    exact ⟨_, rfl, Kd.R_nil _ _ _ _ _, HB.out⟩
  rw [if_neg h10] at h
  have hcc : 4 ≤ (c0 : Int) := by omega
  have HM4 : Aside0 ((Kd.int .u8).C w A0 4 (l0.take 4)) := ⟨by have q := take_reads 4 hr0 (by omega); rw [show (l0.take 4).length = 4 from by rw [List.length_take]; omega] at q; exact q⟩
  obtain ⟨st, hst⟩ : ∃ st, st = strOfNums (l0.take 4) := ⟨_, rfl⟩
  have HMB : isBytes (l0.take 4) := fun x hx => hbytes x (List.mem_of_mem_take hx)
  have hcv : (convert 22 9 (.slice A0 4 c0)).run Try.prog w = .ok (.string st) w := by
    rw [hst]; exact Kd.C_string Try.underlying22 Try.underlying5 Try.underlying9 HM4.out
  have hstr : (st.toList == [76, 73, 77, 71]) = decide (l0.take 4 = markL) := by
    rw [Bool.eq_iff_iff, beq_iff_eq, decide_eq_true_iff, hst]
    rw [show ([76, 73, 77, 71] : List UInt8) = (strOfNums markL).toList from by rw [toList_eq]; rfl]
    exact str_inj (b := markL) HMB (fun x hx => by simp [markL] at hx; omega)
  obtain ⟨en, hen⟩ : ∃ en, en = n - 4 := ⟨_, rfl⟩
  have HEN : Aside0 (en = n - 4 ∧ 10 ≤ n ∧ n = l0.length) := ⟨by omega⟩
  have hw1 : wrap64 (en : Int) = (en : Int) := w64 (by omega) (by omega)
  have hw2 : (n : Int) - 4 = (en : Int) := by omega
  have HR0 := Aside0.mk hr0
  have HBY := Aside0.mk hbytes
  rw [← hen] at h
  clear hn hen hst HMB hbb hlen hbytes hr0 hc0
  have hn10 : ¬ (n : Int) < 10 := by omega
  by_cases hm : l0.take 4 = markL
  case neg =>
    rw [if_pos hm] at h
    injection h with e1 e2
    subst e1
    subst e2
    rw [decide_eq_false hm] at hstr
    clear hm
    go_enter Try.func20, Try.ntmps20
    go_wp2
    go_ret2
    exact ⟨_, rfl, Kd.R_nil _ _ _ _ _, HB.out⟩
  rw [if_neg (fun q => q hm)] at h
  rw [decide_eq_true hm] at hstr
  clear hm
  obtain ⟨Ae, hcutE, hCe⟩ := drop_at A0 l0 c0 en (by have := HEN.out; omega) (by have := HEN.out; have := HN.out; omega)
  have hel : (l0.drop en).length = 4 := by rw [List.length_drop]; have := HEN.out; omega
  rw [← HEN.out.2.2, show n - en = 4 from by have := HEN.out; omega] at hcutE
  have HCE := Aside0.mk hcutE
  obtain ⟨sg, hsg⟩ : ∃ sg, sg = getS (l0.drop en) := ⟨_, rfl⟩
  obtain ⟨sm, hsm⟩ : ∃ sm, sm = Crc.sum (l0.take en) := ⟨_, rfl⟩
  have hdb : isBytes (l0.drop en) := fun x hx => HBY.out x (List.mem_of_mem_drop hx)
  have cGe : Aside0 (∀ w' : World, Below w.heap.size w w' → Calls Try.prog 34 #[.slice Ae 4 (c0 - en)] w' fun e w'' => e = .returned (.int .u64 sg) ∧ Below w'.heap.size w' w'') := ⟨fun w' hb => by
    have g := num_Get.calls 9 Ae (c0 - en) (l0.drop en) sg w' (Kd.C_below (hCe w HR0.out) hb) (by rw [hel]; have := HEN.out; have := HN.out; omega) (by rw [Get_eq 9 _ hdb (by decide), List.take_of_length_le (by rw [hel]; decide), hsg])
    rw [hel] at g
    exact g⟩
  have htl : (l0.take en).length = en := by rw [List.length_take]; have := HEN.out; omega
  have cS : Aside0 (∀ w' : World, Below w.heap.size w w' → Calls Try.prog 33 #[.slice A0 en c0] w' fun e w'' => e = .returned (.int .u32 sm) ∧ Below w'.heap.size w' w'') := ⟨fun w' hb => by
    have g := num_Sum.calls A0 c0 (l0.take en) sm w' (Kd.C_below (take_reads en HR0.out (by have := HEN.out; omega)) hb) (by rw [htl]; have := HEN.out; have := HN.out; omega) (by rw [Sum_eq _ (by rw [htl]; have := HEN.out; have := HN.out; omega), hsm])
    rw [htl] at g
    exact g⟩
  have hsr := Crc.sum_range (l0.take en)
  rw [← hsm] at hsr
  obtain ⟨t, ht⟩ : ∃ t, t = decide (sg ≠ sm) := ⟨_, rfl⟩
  have HCS : Aside0 (∀ W : World, (Instr.slice 22 (.slice A0 n c0) none (some (.int .i64 (en : Int))) none).run Try.prog W = .ok (.slice A0 en c0) W) := ⟨take_at A0 n c0 en (by have := HEN.out; have := HN.out; omega)⟩
  have HEN2 : Aside0 (en ≤ n) := ⟨by have := HEN.out; omega⟩
  have HEN3 : Aside0 ((en : Int) ≤ (c0 : Int)) := ⟨by have := HEN.out; have := HN.out; omega⟩
  have HSW : Aside0 (IntKind.u64.wrap sm = sm) := ⟨u64_wrap hsr.1 (by omega)⟩
  have HT : Aside0 ((sg != sm) = t) := ⟨by rw [ht, Bool.eq_iff_iff, bne_iff_ne, decide_eq_true_iff]⟩
  rw [← hsg, ← hsm] at h
  clear hcutE hCe hsg hsm hsr hel hdb htl
  cases t
  case true =>
    rw [if_pos (of_decide_eq_true ht.symm)] at h
    injection h with e1 e2
    subst e1
    subst e2
    clear ht
    go_enter Try.func20, Try.ntmps20
    go_wp2
    clear hcv hstr hw1 hw2
    refine QN.q_start (n := 11) (S := fun (_ : Unit) w_ => Below w.heap.size w w_) (ds := []) () #[false, false, false, false, false, false, false, false, false, false, false] (by kernel_rfl) rfl rfl (below_drew HB.out) ?_
    clear HB
    refine QN.q_tab image_Unpack.tab6 image_Unpack.bits6 (fun HT_ HW_ => ?_)
    refine QN.q_take (i := 0) (N := some 21) (v := ?_) (a' := ?_) #[true, false, false, false, false, false, false, false, false, false, false] rfl rfl (take_ofW HT_.out HW_.out (by kernel_rfl)) (by decide) (QN.quiet_val (by rfl) ?_) ?_ ?_
    rotate_left
    · intro x w_ _
      go_simp
      with_reducible rfl
    rotate_left
    · simp only [Act.put, List.setIfInBounds_toArray, List.set_cons_zero, List.set_cons_succ, i64_w, i32_w, List.getElem_toArray, List.getElem_cons_succ, List.getElem_cons_zero]
      rfl
    refine QN.q_take (i := 1) (N := some 22) (v := ?_) (a' := ?_) #[true, true, false, false, false, false, false, false, false, false, false] rfl rfl (take_ofW HT_.out HW_.out (by kernel_rfl)) (by decide) (QN.quiet_val (by rfl) ?_) ?_ ?_
    rotate_left
    · intro x w_ _
      go_simp
      with_reducible rfl
    rotate_left
    · simp only [Act.put, List.setIfInBounds_toArray, List.set_cons_zero, List.set_cons_succ, i64_w, i32_w, List.getElem_toArray, List.getElem_cons_succ, List.getElem_cons_zero]
      rfl
    refine QN.q_take (i := 2) (N := some 23) (v := .slice Ae 4 (c0 - en)) (a' := ?_) #[true, true, true, false, false, false, false, false, false, false, false] rfl rfl (take_ofW HT_.out HW_.out (by kernel_rfl)) (by decide) (QN.quiet_val (by rfl) ?_) ?_ ?_
    · intro x w_ _
      have h_ := HCE.out
      have h2_ := HEN2.out
      go_simp
    rotate_left
    · simp only [Act.put, List.setIfInBounds_toArray, List.set_cons_zero, List.set_cons_succ, i64_w, i32_w, List.getElem_toArray, List.getElem_cons_succ, List.getElem_cons_zero]
      rfl
    refine QN.q_take (i := 3) (N := some 24) (v := .int .u64 sg) (a' := ?_) #[true, true, true, true, false, false, false, false, false, false, false] rfl rfl (take_ofW HT_.out HW_.out (by kernel_rfl)) (by decide) (QN.quiet_call Try.func34 (by kernel_rfl) rfl #[.slice Ae 4 (c0 - en)] (by rfl) rfl (by (try simp only [List.map_toArray, List.map_cons, List.map_nil]); first | done | rfl) ?_) ?_ ?_
    · rintro x w_ hB
      with_reducible refine (cGe.out _ hB).mono ?_
      rintro e w_2 ⟨rfl, hb⟩
      exact ⟨rfl, below_step hB hb⟩
    rotate_left
    · simp only [Act.put, List.setIfInBounds_toArray, List.set_cons_zero, List.set_cons_succ, i64_w, i32_w, List.getElem_toArray, List.getElem_cons_succ, List.getElem_cons_zero]
      rfl
    refine QN.q_take (i := 4) (N := some 25) (v := ?_) (a' := ?_) #[true, true, true, true, true, false, false, false, false, false, false] rfl rfl (take_ofW HT_.out HW_.out (by kernel_rfl)) (by decide) (QN.quiet_val (by rfl) ?_) ?_ ?_
    rotate_left
    · intro x w_ _
      go_simp
      with_reducible rfl
    rotate_left
    · simp only [Act.put, List.setIfInBounds_toArray, List.set_cons_zero, List.set_cons_succ, i64_w, i32_w, List.getElem_toArray, List.getElem_cons_succ, List.getElem_cons_zero]
      rfl
    refine QN.q_take (i := 5) (N := some 26) (v := ?_) (a' := ?_) #[true, true, true, true, true, true, false, false, false, false, false] rfl rfl (take_ofW HT_.out HW_.out (by kernel_rfl)) (by decide) (QN.quiet_val (by rfl) ?_) ?_ ?_
    rotate_left
    · intro x w_ _
      go_simp
      with_reducible rfl
    rotate_left
    · simp only [Act.put, List.setIfInBounds_toArray, List.set_cons_zero, List.set_cons_succ, i64_w, i32_w, List.getElem_toArray, List.getElem_cons_succ, List.getElem_cons_zero]
      rfl
    refine QN.q_take (i := 6) (N := some 27) (v := .slice A0 en c0) (a' := ?_) #[true, true, true, true, true, true, true, false, false, false, false] rfl rfl (take_ofW HT_.out HW_.out (by kernel_rfl)) (by decide) (QN.quiet_val (by rfl) ?_) ?_ ?_
    · intro x w_ _
      have h_ := HCS.out
      have h2_ := HEN3.out
      go_simp
    rotate_left
    · simp only [Act.put, List.setIfInBounds_toArray, List.set_cons_zero, List.set_cons_succ, i64_w, i32_w, List.getElem_toArray, List.getElem_cons_succ, List.getElem_cons_zero]
      rfl
    refine QN.q_take (i := 7) (N := some 28) (v := .int .u32 sm) (a' := ?_) #[true, true, true, true, true, true, true, true, false, false, false] rfl rfl (take_ofW HT_.out HW_.out (by kernel_rfl)) (by decide) (QN.quiet_call Try.func33 (by kernel_rfl) rfl #[.slice A0 en c0] (by rfl) rfl (by (try simp only [List.map_toArray, List.map_cons, List.map_nil]); first | done | rfl) ?_) ?_ ?_
    · rintro x w_ hB
      with_reducible refine (cS.out _ hB).mono ?_
      rintro e w_2 ⟨rfl, hb⟩
      exact ⟨rfl, below_step hB hb⟩
    rotate_left
    · simp only [Act.put, List.setIfInBounds_toArray, List.set_cons_zero, List.set_cons_succ, i64_w, i32_w, List.getElem_toArray, List.getElem_cons_succ, List.getElem_cons_zero]
      rfl
    refine QN.q_take (i := 8) (N := some 29) (v := .int .u64 sm) (a' := ?_) #[true, true, true, true, true, true, true, true, true, false, false] rfl rfl (take_ofW HT_.out HW_.out (by kernel_rfl)) (by decide) (QN.quiet_val (by rfl) ?_) ?_ ?_
    · intro x w_ _
      have h1_ := HSW.out
      go_simp
    rotate_left
    · simp only [Act.put, List.setIfInBounds_toArray, List.set_cons_zero, List.set_cons_succ, i64_w, i32_w, List.getElem_toArray, List.getElem_cons_succ, List.getElem_cons_zero]
      rfl
    refine QN.q_take (i := 9) (N := some 30) (v := ?_) (a' := ?_) #[true, true, true, true, true, true, true, true, true, true, false] rfl rfl (take_ofW HT_.out HW_.out (by kernel_rfl)) (by decide) (QN.quiet_val (by rfl) ?_) ?_ ?_
    rotate_left
    · intro x w_ _
      have h1_ := HT.out
      go_simp
      with_reducible rfl
    rotate_left
    · simp only [Act.put, List.setIfInBounds_toArray, List.set_cons_zero, List.set_cons_succ, i64_w, i32_w, List.getElem_toArray, List.getElem_cons_succ, List.getElem_cons_zero]
      rfl
    refine QN.q_take (i := 10) (N := some 20) (v := ?_) (a' := ?_) #[true, true, true, true, true, true, true, true, true, true, true] rfl rfl (take_ofW HT_.out HW_.out (by kernel_rfl)) (by decide) (QN.quiet_val (by rfl) ?_) ?_ ?_
    rotate_left
    · intro x w_ _
      go_simp
      with_reducible rfl
    rotate_left
    · simp only [Act.put, List.setIfInBounds_toArray, List.set_cons_zero, List.set_cons_succ, i64_w, i32_w, List.getElem_toArray, List.getElem_cons_succ, List.getElem_cons_zero]
      rfl
    refine QN.q_done (done_of HT_.out (by kernel_rfl)) ?_
    rintro w_ hB
    have HB := Aside0.mk hB
    clear hB
    go_wp2
    go_ret2
    exact ⟨_, rfl, Kd.R_nil _ _ _ _ _, HB.out⟩
  rw [if_neg (of_decide_eq_false ht.symm)] at h
  clear ht
  obtain ⟨A6, hcut6, hC6, hl6⟩ := mid_cut A0 c0 l0 6 (en : Int) 6 en rfl rfl (by have := HEN.out; omega) (by have := HEN.out; omega) (by have := HEN.out; have := HN.out; omega)
  obtain ⟨q, hq⟩ : ∃ q, q = (l0.take en).drop 6 := ⟨_, rfl⟩
  rw [← hq] at hC6 hl6 h
  have hqb : isBytes q := fun x hx => HBY.out x (by rw [hq] at hx; exact List.mem_of_mem_take (List.mem_of_mem_drop hx))
  rw [← HEN.out.2.2] at hcut6
  have HC6 := Aside0.mk hcut6
  have HE6 : Aside0 (6 ≤ (en : Int)) := ⟨by have := HEN.out; omega⟩
  obtain ⟨R, hR⟩ : ∃ R, R = rowsOf q := ⟨_, rfl⟩
  have cR0 : Aside0 (∀ w' : World, Below w.heap.size w w' → Calls Try.prog 35 #[.slice A6 (en - 6) (c0 - 6)] w' fun e w'' => RowsOut R e w'' ∧ Below w'.heap.size w' w'') := ⟨fun w' hb => by
    have g := image_rows.calls A6 (c0 - 6) q w' (Kd.C_below (hC6 w HR0.out) hb) (by rw [hl6]; have := HEN.out; have := HN.out; omega) hqb (by rw [hl6]; have := HEN.out; have := HN.out; omega)
    rw [hl6] at g
    rw [hR]
    exact g⟩
  rw [← hR] at h
  have HRQ : Aside0 (rowsOf q = R ∧ isBytes q) := ⟨hR.symm, hqb⟩
  clear hcut6 hC6 hl6 hq hqb hR
  cases R with
  | none =>
    simp only at h
    injection h with e1 e2
    subst e1
    subst e2
    have cR : Aside0 (∀ w' : World, Below w.heap.size w w' → Calls Try.prog 35 #[.slice A6 (en - 6) (c0 - 6)] w' fun e w'' => e = .returned (.tuple #[.slice none 0 0, .bool false]) ∧ Below w'.heap.size w' w'') := cR0
    go_enter Try.func20, Try.ntmps20
    go_wp2
    clear hcv hstr hw1 hw2
    refine QN.q_start (n := 11) (S := fun (_ : Unit) w_ => Below w.heap.size w w_) (ds := []) () #[false, false, false, false, false, false, false, false, false, false, false] (by kernel_rfl) rfl rfl (below_drew HB.out) ?_
    clear HB
    refine QN.q_tab image_Unpack.tab6 image_Unpack.bits6 (fun HT_ HW_ => ?_)
    refine QN.q_take (i := 0) (N := some 21) (v := ?_) (a' := ?_) #[true, false, false, false, false, false, false, false, false, false, false] rfl rfl (take_ofW HT_.out HW_.out (by kernel_rfl)) (by decide) (QN.quiet_val (by rfl) ?_) ?_ ?_
    rotate_left
    · intro x w_ _
      go_simp
      with_reducible rfl
    rotate_left
    · simp only [Act.put, List.setIfInBounds_toArray, List.set_cons_zero, List.set_cons_succ, i64_w, i32_w, List.getElem_toArray, List.getElem_cons_succ, List.getElem_cons_zero]
      rfl
    refine QN.q_take (i := 1) (N := some 22) (v := ?_) (a' := ?_) #[true, true, false, false, false, false, false, false, false, false, false] rfl rfl (take_ofW HT_.out HW_.out (by kernel_rfl)) (by decide) (QN.quiet_val (by rfl) ?_) ?_ ?_
    rotate_left
    · intro x w_ _
      go_simp
      with_reducible rfl
    rotate_left
    · simp only [Act.put, List.setIfInBounds_toArray, List.set_cons_zero, List.set_cons_succ, i64_w, i32_w, List.getElem_toArray, List.getElem_cons_succ, List.getElem_cons_zero]
      rfl
    refine QN.q_take (i := 2) (N := some 23) (v := .slice Ae 4 (c0 - en)) (a' := ?_) #[true, true, true, false, false, false, false, false, false, false, false] rfl rfl (take_ofW HT_.out HW_.out (by kernel_rfl)) (by decide) (QN.quiet_val (by rfl) ?_) ?_ ?_
    · intro x w_ _
      have h_ := HCE.out
      have h2_ := HEN2.out
      go_simp
    rotate_left
    · simp only [Act.put, List.setIfInBounds_toArray, List.set_cons_zero, List.set_cons_succ, i64_w, i32_w, List.getElem_toArray, List.getElem_cons_succ, List.getElem_cons_zero]
      rfl
    refine QN.q_take (i := 3) (N := some 24) (v := .int .u64 sg) (a' := ?_) #[true, true, true, true, false, false, false, false, false, false, false] rfl rfl (take_ofW HT_.out HW_.out (by kernel_rfl)) (by decide) (QN.quiet_call Try.func34 (by kernel_rfl) rfl #[.slice Ae 4 (c0 - en)] (by rfl) rfl (by (try simp only [List.map_toArray, List.map_cons, List.map_nil]); first | done | rfl) ?_) ?_ ?_
    · rintro x w_ hB
      with_reducible refine (cGe.out _ hB).mono ?_
      rintro e w_2 ⟨rfl, hb⟩
      exact ⟨rfl, below_step hB hb⟩
    rotate_left
    · simp only [Act.put, List.setIfInBounds_toArray, List.set_cons_zero, List.set_cons_succ, i64_w, i32_w, List.getElem_toArray, List.getElem_cons_succ, List.getElem_cons_zero]
      rfl
    refine QN.q_take (i := 4) (N := some 25) (v := ?_) (a' := ?_) #[true, true, true, true, true, false, false, false, false, false, false] rfl rfl (take_ofW HT_.out HW_.out (by kernel_rfl)) (by decide) (QN.quiet_val (by rfl) ?_) ?_ ?_
    rotate_left
    · intro x w_ _
      go_simp
      with_reducible rfl
    rotate_left
    · simp only [Act.put, List.setIfInBounds_toArray, List.set_cons_zero, List.set_cons_succ, i64_w, i32_w, List.getElem_toArray, List.getElem_cons_succ, List.getElem_cons_zero]
      rfl
    refine QN.q_take (i := 5) (N := some 26) (v := ?_) (a' := ?_) #[true, true, true, true, true, true, false, false, false, false, false] rfl rfl (take_ofW HT_.out HW_.out (by kernel_rfl)) (by decide) (QN.quiet_val (by rfl) ?_) ?_ ?_
    rotate_left
    · intro x w_ _
      go_simp
      with_reducible rfl
    rotate_left
    · simp only [Act.put, List.setIfInBounds_toArray, List.set_cons_zero, List.set_cons_succ, i64_w, i32_w, List.getElem_toArray, List.getElem_cons_succ, List.getElem_cons_zero]
      rfl
    refine QN.q_take (i := 6) (N := some 27) (v := .slice A0 en c0) (a' := ?_) #[true, true, true, true, true, true, true, false, false, false, false] rfl rfl (take_ofW HT_.out HW_.out (by kernel_rfl)) (by decide) (QN.quiet_val (by rfl) ?_) ?_ ?_
    · intro x w_ _
      have h_ := HCS.out
      have h2_ := HEN3.out
      go_simp
    rotate_left
    · simp only [Act.put, List.setIfInBounds_toArray, List.set_cons_zero, List.set_cons_succ, i64_w, i32_w, List.getElem_toArray, List.getElem_cons_succ, List.getElem_cons_zero]
      rfl
    refine QN.q_take (i := 7) (N := some 28) (v := .int .u32 sm) (a' := ?_) #[true, true, true, true, true, true, true, true, false, false, false] rfl rfl (take_ofW HT_.out HW_.out (by kernel_rfl)) (by decide) (QN.quiet_call Try.func33 (by kernel_rfl) rfl #[.slice A0 en c0] (by rfl) rfl (by (try simp only [List.map_toArray, List.map_cons, List.map_nil]); first | done | rfl) ?_) ?_ ?_
    · rintro x w_ hB
      with_reducible refine (cS.out _ hB).mono ?_
      rintro e w_2 ⟨rfl, hb⟩
      exact ⟨rfl, below_step hB hb⟩
    rotate_left
    · simp only [Act.put, List.setIfInBounds_toArray, List.set_cons_zero, List.set_cons_succ, i64_w, i32_w, List.getElem_toArray, List.getElem_cons_succ, List.getElem_cons_zero]
      rfl
    refine QN.q_take (i := 8) (N := some 29) (v := .int .u64 sm) (a' := ?_) #[true, true, true, true, true, true, true, true, true, false, false] rfl rfl (take_ofW HT_.out HW_.out (by kernel_rfl)) (by decide) (QN.quiet_val (by rfl) ?_) ?_ ?_
    · intro x w_ _
      have h1_ := HSW.out
      go_simp
    rotate_left
    · simp only [Act.put, List.setIfInBounds_toArray, List.set_cons_zero, List.set_cons_succ, i64_w, i32_w, List.getElem_toArray, List.getElem_cons_succ, List.getElem_cons_zero]
      rfl
    refine QN.q_take (i := 9) (N := some 30) (v := ?_) (a' := ?_) #[true, true, true, true, true, true, true, true, true, true, false] rfl rfl (take_ofW HT_.out HW_.out (by kernel_rfl)) (by decide) (QN.quiet_val (by rfl) ?_) ?_ ?_
    rotate_left
    · intro x w_ _
      have h1_ := HT.out
      go_simp
      with_reducible rfl
    rotate_left
    · simp only [Act.put, List.setIfInBounds_toArray, List.set_cons_zero, List.set_cons_succ, i64_w, i32_w, List.getElem_toArray, List.getElem_cons_succ, List.getElem_cons_zero]
      rfl
    refine QN.q_take (i := 10) (N := some 20) (v := ?_) (a' := ?_) #[true, true, true, true, true, true, true, true, true, true, true] rfl rfl (take_ofW HT_.out HW_.out (by kernel_rfl)) (by decide) (QN.quiet_val (by rfl) ?_) ?_ ?_
    rotate_left
    · intro x w_ _
      go_simp
      with_reducible rfl
    rotate_left
    · simp only [Act.put, List.setIfInBounds_toArray, List.set_cons_zero, List.set_cons_succ, i64_w, i32_w, List.getElem_toArray, List.getElem_cons_succ, List.getElem_cons_zero]
      rfl
    refine QN.q_done (done_of HT_.out (by kernel_rfl)) ?_
    rintro w_ hB
    have HB := Aside0.mk hB
    clear hB
    have hcut6 := HC6.out
    have he6 := HE6.out
    have he3 := HEN3.out
    go_wp2_with (first
      | (go_at_call 35; go_loud ((with_reducible refine (cR.out _ HB.out).mono ?_); rintro e w_ ⟨rfl, hb⟩; replace HB := Aside0.mk (below_step HB.out hb); clear hb)))
    go_ret2
    exact ⟨_, rfl, Kd.R_nil _ _ _ _ _, HB.out⟩
  | some l =>
    simp only at h
    have cR : Aside0 (∀ w' : World, Below w.heap.size w w' → Calls Try.prog 35 #[.slice A6 (en - 6) (c0 - 6)] w' fun e w'' => (∃ A c, e = .returned (.tuple #[.slice A l.length c, .bool true]) ∧ l.length ≤ c ∧ Kd.C k41 w'' A l.length l) ∧ Below w'.heap.size w' w'') := cR0
    have hlb : rowsB l = true := List.all_eq_true.mpr fun r hr => bytesB_iff.mpr (rowsQ_bytes _ q l HRQ.out.2 HRQ.out.1 r hr)
    obtain ⟨b, e, hbe⟩ : ∃ b e, blocksP l = (b, e) := ⟨_, _, rfl⟩
    have hbf : image_Blocks.f l = some (b, e) := by unfold image_Blocks.f; rw [if_pos hlb, hbe]
    rw [hbe] at h
    simp only at h
    have cB : Aside0 (∀ (w' : World) (A : Option Addr) (c : Nat), Below w.heap.size w w' → Kd.C k41 w' A l.length l → l.length ≤ c → Calls Try.prog 14 #[.slice A l.length c] w' fun e_ w'' => ∃ v0_ : Value, e_ = .returned (.tuple #[v0_, .int .i64 e]) ∧ Kd.R (Kd.int .u8) 5 w'' w.heap.size (fun _ => True) v0_ b ∧ Below w'.heap.size w' w'') := ⟨fun w' A c hb hC hc =>
      (image_Blocks.calls A c l b e w' hC hc hbf).mono fun e_ w'' ⟨v, h1, h2, h3⟩ => ⟨v, h1, Kd.R_lower h2 hb.size, h3⟩⟩
    have hbe' := hbe
    clear hlb hbf hbe
    by_cases he : e = 0
    case neg =>
      rw [if_pos he] at h
      injection h with e1 e2
      subst e1
      subst e2
      have he1 : (e != 0) = true := bne_iff_ne.mpr he
      clear he
      go_enter Try.func20, Try.ntmps20
      go_wp2
      clear hcv hstr hw1 hw2
      refine QN.q_start (n := 11) (S := fun (_ : Unit) w_ => Below w.heap.size w w_) (ds := []) () #[false, false, false, false, false, false, false, false, false, false, false] (by kernel_rfl) rfl rfl (below_drew HB.out) ?_
      clear HB
      refine QN.q_tab image_Unpack.tab6 image_Unpack.bits6 (fun HT_ HW_ => ?_)
      refine QN.q_take (i := 0) (N := some 21) (v := ?_) (a' := ?_) #[true, false, false, false, false, false, false, false, false, false, false] rfl rfl (take_ofW HT_.out HW_.out (by kernel_rfl)) (by decide) (QN.quiet_val (by rfl) ?_) ?_ ?_
      rotate_left
      · intro x w_ _
        go_simp
        with_reducible rfl
      rotate_left
      · simp only [Act.put, List.setIfInBounds_toArray, List.set_cons_zero, List.set_cons_succ, i64_w, i32_w, List.getElem_toArray, List.getElem_cons_succ, List.getElem_cons_zero]
        rfl
      refine QN.q_take (i := 1) (N := some 22) (v := ?_) (a' := ?_) #[true, true, false, false, false, false, false, false, false, false, false] rfl rfl (take_ofW HT_.out HW_.out (by kernel_rfl)) (by decide) (QN.quiet_val (by rfl) ?_) ?_ ?_
      rotate_left
      · intro x w_ _
        go_simp
        with_reducible rfl
      rotate_left
      · simp only [Act.put, List.setIfInBounds_toArray, List.set_cons_zero, List.set_cons_succ, i64_w, i32_w, List.getElem_toArray, List.getElem_cons_succ, List.getElem_cons_zero]
        rfl
      refine QN.q_take (i := 2) (N := some 23) (v := .slice Ae 4 (c0 - en)) (a' := ?_) #[true, true, true, false, false, false, false, false, false, false, false] rfl rfl (take_ofW HT_.out HW_.out (by kernel_rfl)) (by decide) (QN.quiet_val (by rfl) ?_) ?_ ?_
      · intro x w_ _
        have h_ := HCE.out
        have h2_ := HEN2.out
        go_simp
      rotate_left
      · simp only [Act.put, List.setIfInBounds_toArray, List.set_cons_zero, List.set_cons_succ, i64_w, i32_w, List.getElem_toArray, List.getElem_cons_succ, List.getElem_cons_zero]
        rfl
      refine QN.q_take (i := 3) (N := some 24) (v := .int .u64 sg) (a' := ?_) #[true, true, true, true, false, false, false, false, false, false, false] rfl rfl (take_ofW HT_.out HW_.out (by kernel_rfl)) (by decide) (QN.quiet_call Try.func34 (by kernel_rfl) rfl #[.slice Ae 4 (c0 - en)] (by rfl) rfl (by (try simp only [List.map_toArray, List.map_cons, List.map_nil]); first | done | rfl) ?_) ?_ ?_
      · rintro x w_ hB
        with_reducible refine (cGe.out _ hB).mono ?_
        rintro e w_2 ⟨rfl, hb⟩
        exact ⟨rfl, below_step hB hb⟩
      rotate_left
      · simp only [Act.put, List.setIfInBounds_toArray, List.set_cons_zero, List.set_cons_succ, i64_w, i32_w, List.getElem_toArray, List.getElem_cons_succ, List.getElem_cons_zero]
        rfl
      refine QN.q_take (i := 4) (N := some 25) (v := ?_) (a' := ?_) #[true, true, true, true, true, false, false, false, false, false, false] rfl rfl (take_ofW HT_.out HW_.out (by kernel_rfl)) (by decide) (QN.quiet_val (by rfl) ?_) ?_ ?_
      rotate_left
      · intro x w_ _
        go_simp
        with_reducible rfl
      rotate_left
      · simp only [Act.put, List.setIfInBounds_toArray, List.set_cons_zero, List.set_cons_succ, i64_w, i32_w, List.getElem_toArray, List.getElem_cons_succ, List.getElem_cons_zero]
        rfl
      refine QN.q_take (i := 5) (N := some 26) (v := ?_) (a' := ?_) #[true, true, true, true, true, true, false, false, false, false, false] rfl rfl (take_ofW HT_.out HW_.out (by kernel_rfl)) (by decide) (QN.quiet_val (by rfl) ?_) ?_ ?_
      rotate_left
      · intro x w_ _
        go_simp
        with_reducible rfl
      rotate_left
      · simp only [Act.put, List.setIfInBounds_toArray, List.set_cons_zero, List.set_cons_succ, i64_w, i32_w, List.getElem_toArray, List.getElem_cons_succ, List.getElem_cons_zero]
        rfl
      refine QN.q_take (i := 6) (N := some 27) (v := .slice A0 en c0) (a' := ?_) #[true, true, true, true, true, true, true, false, false, false, false] rfl rfl (take_ofW HT_.out HW_.out (by kernel_rfl)) (by decide) (QN.quiet_val (by rfl) ?_) ?_ ?_
      · intro x w_ _
        have h_ := HCS.out
        have h2_ := HEN3.out
        go_simp
      rotate_left
      · simp only [Act.put, List.setIfInBounds_toArray, List.set_cons_zero, List.set_cons_succ, i64_w, i32_w, List.getElem_toArray, List.getElem_cons_succ, List.getElem_cons_zero]
        rfl
      refine QN.q_take (i := 7) (N := some 28) (v := .int .u32 sm) (a' := ?_) #[true, true, true, true, true, true, true, true, false, false, false] rfl rfl (take_ofW HT_.out HW_.out (by kernel_rfl)) (by decide) (QN.quiet_call Try.func33 (by kernel_rfl) rfl #[.slice A0 en c0] (by rfl) rfl (by (try simp only [List.map_toArray, List.map_cons, List.map_nil]); first | done | rfl) ?_) ?_ ?_
      · rintro x w_ hB
        with_reducible refine (cS.out _ hB).mono ?_
        rintro e w_2 ⟨rfl, hb⟩
        exact ⟨rfl, below_step hB hb⟩
      rotate_left
      · simp only [Act.put, List.setIfInBounds_toArray, List.set_cons_zero, List.set_cons_succ, i64_w, i32_w, List.getElem_toArray, List.getElem_cons_succ, List.getElem_cons_zero]
        rfl
      refine QN.q_take (i := 8) (N := some 29) (v := .int .u64 sm) (a' := ?_) #[true, true, true, true, true, true, true, true, true, false, false] rfl rfl (take_ofW HT_.out HW_.out (by kernel_rfl)) (by decide) (QN.quiet_val (by rfl) ?_) ?_ ?_
      · intro x w_ _
        have h1_ := HSW.out
        go_simp
      rotate_left
      · simp only [Act.put, List.setIfInBounds_toArray, List.set_cons_zero, List.set_cons_succ, i64_w, i32_w, List.getElem_toArray, List.getElem_cons_succ, List.getElem_cons_zero]
        rfl
      refine QN.q_take (i := 9) (N := some 30) (v := ?_) (a' := ?_) #[true, true, true, true, true, true, true, true, true, true, false] rfl rfl (take_ofW HT_.out HW_.out (by kernel_rfl)) (by decide) (QN.quiet_val (by rfl) ?_) ?_ ?_
      rotate_left
      · intro x w_ _
        have h1_ := HT.out
        go_simp
        with_reducible rfl
      rotate_left
      · simp only [Act.put, List.setIfInBounds_toArray, List.set_cons_zero, List.set_cons_succ, i64_w, i32_w, List.getElem_toArray, List.getElem_cons_succ, List.getElem_cons_zero]
        rfl
      refine QN.q_take (i := 10) (N := some 20) (v := ?_) (a' := ?_) #[true, true, true, true, true, true, true, true, true, true, true] rfl rfl (take_ofW HT_.out HW_.out (by kernel_rfl)) (by decide) (QN.quiet_val (by rfl) ?_) ?_ ?_
      rotate_left
      · intro x w_ _
        go_simp
        with_reducible rfl
      rotate_left
      · simp only [Act.put, List.setIfInBounds_toArray, List.set_cons_zero, List.set_cons_succ, i64_w, i32_w, List.getElem_toArray, List.getElem_cons_succ, List.getElem_cons_zero]
        rfl
      refine QN.q_done (done_of HT_.out (by kernel_rfl)) ?_
      rintro w_ hB
      have HB := Aside0.mk hB
      clear hB
      have hcut6 := HC6.out
      have he6 := HE6.out
      have he3 := HEN3.out
      go_wp2_with (first
        | (go_at_call 35; go_loud ((with_reducible refine (cR.out _ HB.out).mono ?_); rintro e w_ ⟨⟨Al, cl, rfl, hlc, hC⟩, hb⟩; replace HB := Aside0.mk (below_step HB.out hb); clear hb; have HCL := Aside0.mk (⟨hlc, hC⟩ : _ ∧ _); clear hlc hC))
        | (go_at_call 14; go_loud ((with_reducible refine (cB.out _ _ _ HB.out HCL.out.2 HCL.out.1).mono ?_); rintro e w_ ⟨v, rfl, _, hb⟩; replace HB := Aside0.mk (below_step HB.out hb); clear hb HCL)))
      go_ret2
      exact ⟨_, rfl, Kd.R_nil _ _ _ _ _, HB.out⟩
    rw [if_neg (fun q => q he)] at h
    subst he
    obtain ⟨A4, hcut46, hC4, hl4⟩ := mid_cut A0 c0 l0 4 6 4 6 rfl rfl (by decide) (by have := HEN.out; omega) (by have := HEN.out; have := HN.out; omega)
    rw [← HEN.out.2.2] at hcut46
    obtain ⟨g4, hg4⟩ : ∃ g4, g4 = getS ((l0.take 6).drop 4) := ⟨_, rfl⟩
    have hgb : isBytes ((l0.take 6).drop 4) := fun x hx => HBY.out x (List.mem_of_mem_take (List.mem_of_mem_drop hx))
    have hgr := getS_range _ hgb
    rw [hl4, ← hg4] at hgr
    have cG4 : Aside0 (∀ w' : World, Below w.heap.size w w' → Calls Try.prog 34 #[.slice A4 2 (c0 - 4)] w' fun e w'' => e = .returned (.int .u64 g4) ∧ Below w'.heap.size w' w'') := ⟨fun w' hb => by
      have g := num_Get.calls 9 A4 (c0 - 4) ((l0.take 6).drop 4) g4 w' (Kd.C_below (hC4 w HR0.out) hb) (by rw [hl4]; have := HEN.out; have := HN.out; omega) (by rw [Get_eq 9 _ hgb (by decide), List.take_of_length_le (by rw [hl4]; decide), hg4])
      rw [hl4] at g
      exact g⟩
    rw [← hg4] at h
    have HW4 : Aside0 (wrap64 g4 = g4) := ⟨w64 (by omega) (by omega)⟩
    obtain ⟨nb, hnb⟩ : ∃ nb, nb = b.length := ⟨_, rfl⟩
    rw [← hnb] at h
    have HQL : Aside0 (nb ≤ 1048576) := ⟨by rw [hnb]; exact blocksP_len hbe'⟩
    obtain ⟨qb, hqb⟩ : ∃ qb, qb = nb / 256 := ⟨_, rfl⟩
    rw [← hqb] at h
    have HQB : Aside0 ((nb : Int).tdiv 256 = (qb : Int) ∧ (nb : Int) / 256 = (qb : Int)) := ⟨by rw [Int.tdiv_eq_ediv_of_nonneg (by omega)]; omega, by omega⟩
    have HNB : Aside0 (b.length = nb) := ⟨hnb.symm⟩
    have HC46 : Aside0 ((6 : Int) ≤ (c0 : Int) ∧ ∀ W : World, (Instr.slice 22 (.slice A0 n c0) (some (.int .i64 4)) (some (.int .i64 6)) none).run Try.prog W = .ok (.slice A4 2 (c0 - 4)) W) := ⟨by have := HEN.out; have := HN.out; omega, hcut46⟩
    obtain ⟨t, ht⟩ : ∃ t, t = decide ((qb : Int) ≠ g4) := ⟨_, rfl⟩
    have HT4 : Aside0 (((qb : Int) != g4) = t) := ⟨by rw [ht, Bool.eq_iff_iff, bne_iff_ne, decide_eq_true_iff]⟩
    clear hcut46 hC4 hl4 hg4 hgb hgr hnb hqb
    have hrr : (t = true → r1 = [] ∧ r2 = 8) ∧ (t = false → r1 = b ∧ r2 = 0) := by
      refine ⟨fun e => ?_, fun e => ?_⟩
      · rw [if_pos (of_decide_eq_true (ht.symm.trans e))] at h
        injection h with e1 e2
        exact ⟨e1.symm, e2.symm⟩
      · rw [if_neg (of_decide_eq_false (ht.symm.trans e))] at h
        injection h with e1 e2
        exact ⟨e1.symm, e2.symm⟩
    have HRR := Aside0.mk hrr
    clear hrr ht h
    go_enter Try.func20, Try.ntmps20
    go_wp2
    clear hcv hstr hw1 hw2
    refine QN.q_start (n := 11) (S := fun (_ : Unit) w_ => Below w.heap.size w w_) (ds := []) () #[false, false, false, false, false, false, false, false, false, false, false] (by kernel_rfl) rfl rfl (below_drew HB.out) ?_
    clear HB
    refine QN.q_tab image_Unpack.tab6 image_Unpack.bits6 (fun HT_ HW_ => ?_)
    refine QN.q_take (i := 0) (N := some 21) (v := ?_) (a' := ?_) #[true, false, false, false, false, false, false, false, false, false, false] rfl rfl (take_ofW HT_.out HW_.out (by kernel_rfl)) (by decide) (QN.quiet_val (by rfl) ?_) ?_ ?_
    rotate_left
    · intro x w_ _
      go_simp
      with_reducible rfl
    rotate_left
    · simp only [Act.put, List.setIfInBounds_toArray, List.set_cons_zero, List.set_cons_succ, i64_w, i32_w, List.getElem_toArray, List.getElem_cons_succ, List.getElem_cons_zero]
      rfl
    refine QN.q_take (i := 1) (N := some 22) (v := ?_) (a' := ?_) #[true, true, false, false, false, false, false, false, false, false, false] rfl rfl (take_ofW HT_.out HW_.out (by kernel_rfl)) (by decide) (QN.quiet_val (by rfl) ?_) ?_ ?_
    rotate_left
    · intro x w_ _
      go_simp
      with_reducible rfl
    rotate_left
    · simp only [Act.put, List.setIfInBounds_toArray, List.set_cons_zero, List.set_cons_succ, i64_w, i32_w, List.getElem_toArray, List.getElem_cons_succ, List.getElem_cons_zero]
      rfl
    refine QN.q_take (i := 2) (N := some 23) (v := .slice Ae 4 (c0 - en)) (a' := ?_) #[true, true, true, false, false, false, false, false, false, false, false] rfl rfl (take_ofW HT_.out HW_.out (by kernel_rfl)) (by decide) (QN.quiet_val (by rfl) ?_) ?_ ?_
    · intro x w_ _
      have h_ := HCE.out
      have h2_ := HEN2.out
      go_simp
    rotate_left
    · simp only [Act.put, List.setIfInBounds_toArray, List.set_cons_zero, List.set_cons_succ, i64_w, i32_w, List.getElem_toArray, List.getElem_cons_succ, List.getElem_cons_zero]
      rfl
    refine QN.q_take (i := 3) (N := some 24) (v := .int .u64 sg) (a' := ?_) #[true, true, true, true, false, false, false, false, false, false, false] rfl rfl (take_ofW HT_.out HW_.out (by kernel_rfl)) (by decide) (QN.quiet_call Try.func34 (by kernel_rfl) rfl #[.slice Ae 4 (c0 - en)] (by rfl) rfl (by (try simp only [List.map_toArray, List.map_cons, List.map_nil]); first | done | rfl) ?_) ?_ ?_
    · rintro x w_ hB
      with_reducible refine (cGe.out _ hB).mono ?_
      rintro e w_2 ⟨rfl, hb⟩
      exact ⟨rfl, below_step hB hb⟩
    rotate_left
    · simp only [Act.put, List.setIfInBounds_toArray, List.set_cons_zero, List.set_cons_succ, i64_w, i32_w, List.getElem_toArray, List.getElem_cons_succ, List.getElem_cons_zero]
      rfl
    refine QN.q_take (i := 4) (N := some 25) (v := ?_) (a' := ?_) #[true, true, true, true, true, false, false, false, false, false, false] rfl rfl (take_ofW HT_.out HW_.out (by kernel_rfl)) (by decide) (QN.quiet_val (by rfl) ?_) ?_ ?_
    rotate_left
    · intro x w_ _
      go_simp
      with_reducible rfl
    rotate_left
    · simp only [Act.put, List.setIfInBounds_toArray, List.set_cons_zero, List.set_cons_succ, i64_w, i32_w, List.getElem_toArray, List.getElem_cons_succ, List.getElem_cons_zero]
      rfl
    refine QN.q_take (i := 5) (N := some 26) (v := ?_) (a' := ?_) #[true, true, true, true, true, true, false, false, false, false, false] rfl rfl (take_ofW HT_.out HW_.out (by kernel_rfl)) (by decide) (QN.quiet_val (by rfl) ?_) ?_ ?_
    rotate_left
    · intro x w_ _
      go_simp
      with_reducible rfl
    rotate_left
    · simp only [Act.put, List.setIfInBounds_toArray, List.set_cons_zero, List.set_cons_succ, i64_w, i32_w, List.getElem_toArray, List.getElem_cons_succ, List.getElem_cons_zero]
      rfl
    refine QN.q_take (i := 6) (N := some 27) (v := .slice A0 en c0) (a' := ?_) #[true, true, true, true, true, true, true, false, false, false, false] rfl rfl (take_ofW HT_.out HW_.out (by kernel_rfl)) (by decide) (QN.quiet_val (by rfl) ?_) ?_ ?_
    · intro x w_ _
      have h_ := HCS.out
      have h2_ := HEN3.out
      go_simp
    rotate_left
    · simp only [Act.put, List.setIfInBounds_toArray, List.set_cons_zero, List.set_cons_succ, i64_w, i32_w, List.getElem_toArray, List.getElem_cons_succ, List.getElem_cons_zero]
      rfl
    refine QN.q_take (i := 7) (N := some 28) (v := .int .u32 sm) (a' := ?_) #[true, true, true, true, true, true, true, true, false, false, false] rfl rfl (take_ofW HT_.out HW_.out (by kernel_rfl)) (by decide) (QN.quiet_call Try.func33 (by kernel_rfl) rfl #[.slice A0 en c0] (by rfl) rfl (by (try simp only [List.map_toArray, List.map_cons, List.map_nil]); first | done | rfl) ?_) ?_ ?_
    · rintro x w_ hB
      with_reducible refine (cS.out _ hB).mono ?_
      rintro e w_2 ⟨rfl, hb⟩
      exact ⟨rfl, below_step hB hb⟩
    rotate_left
    · simp only [Act.put, List.setIfInBounds_toArray, List.set_cons_zero, List.set_cons_succ, i64_w, i32_w, List.getElem_toArray, List.getElem_cons_succ, List.getElem_cons_zero]
      rfl
    refine QN.q_take (i := 8) (N := some 29) (v := .int .u64 sm) (a' := ?_) #[true, true, true, true, true, true, true, true, true, false, false] rfl rfl (take_ofW HT_.out HW_.out (by kernel_rfl)) (by decide) (QN.quiet_val (by rfl) ?_) ?_ ?_
    · intro x w_ _
      have h1_ := HSW.out
      go_simp
    rotate_left
    · simp only [Act.put, List.setIfInBounds_toArray, List.set_cons_zero, List.set_cons_succ, i64_w, i32_w, List.getElem_toArray, List.getElem_cons_succ, List.getElem_cons_zero]
      rfl
    refine QN.q_take (i := 9) (N := some 30) (v := ?_) (a' := ?_) #[true, true, true, true, true, true, true, true, true, true, false] rfl rfl (take_ofW HT_.out HW_.out (by kernel_rfl)) (by decide) (QN.quiet_val (by rfl) ?_) ?_ ?_
    rotate_left
    · intro x w_ _
      have h1_ := HT.out
      go_simp
      with_reducible rfl
    rotate_left
    · simp only [Act.put, List.setIfInBounds_toArray, List.set_cons_zero, List.set_cons_succ, i64_w, i32_w, List.getElem_toArray, List.getElem_cons_succ, List.getElem_cons_zero]
      rfl
    refine QN.q_take (i := 10) (N := some 20) (v := ?_) (a' := ?_) #[true, true, true, true, true, true, true, true, true, true, true] rfl rfl (take_ofW HT_.out HW_.out (by kernel_rfl)) (by decide) (QN.quiet_val (by rfl) ?_) ?_ ?_
    rotate_left
    · intro x w_ _
      go_simp
      with_reducible rfl
    rotate_left
    · simp only [Act.put, List.setIfInBounds_toArray, List.set_cons_zero, List.set_cons_succ, i64_w, i32_w, List.getElem_toArray, List.getElem_cons_succ, List.getElem_cons_zero]
      rfl
    refine QN.q_done (done_of HT_.out (by kernel_rfl)) ?_
    rintro w_ hB
    have HB := Aside0.mk hB
    clear hB
    have hcut6 := HC6.out
    have he6 := HE6.out
    have he3 := HEN3.out
    have h46 := HC46.out.2
    have h46b := HC46.out.1
    have hw4 := HW4.out
    have hq0 := HQB.out.1
    have hq1 := HQB.out.2
    have hqw : wrap64 (qb : Int) = (qb : Int) := w64 (by omega) (by have := HQB.out.2; have := HQL.out; omega)
    have ht4 := HT4.out
    cases t
    case true =>
      obtain ⟨e1, e2⟩ := HRR.out.1 rfl
      subst e1
      subst e2
      go_wp2_with (first
        | (go_at_call 35; go_loud ((with_reducible refine (cR.out _ HB.out).mono ?_); rintro e w_ ⟨⟨Al, cl, rfl, hlc, hC⟩, hb⟩; replace HB := Aside0.mk (below_step HB.out hb); clear hb; have HCL := Aside0.mk (⟨hlc, hC⟩ : _ ∧ _); clear hlc hC))
        | (go_at_call 14; go_loud ((with_reducible refine (cB.out _ _ _ HB.out HCL.out.2 HCL.out.1).mono ?_); rintro e w_ ⟨v, rfl, hR, hb⟩; replace HB := Aside0.mk (below_step HB.out hb); clear hb HCL; obtain ⟨Ab, cb, eb⟩ := Kd.R_slice hR; subst eb; rw [HNB.out] at hR ⊢; have HV := Aside0.mk hR; clear hR))
        | (go_at_call 34; go_loud ((with_reducible refine (cG4.out _ HB.out).mono ?_); rintro e w_ ⟨rfl, hb⟩; replace HV := Aside0.mk (Kd.R_below HV.out hb); replace HB := Aside0.mk (below_step HB.out hb); clear hb)))
      go_ret2
      exact ⟨_, rfl, Kd.R_nil _ _ _ _ _, HB.out⟩
    case false =>
      obtain ⟨e1, e2⟩ := HRR.out.2 rfl
      subst e1
      subst e2
      go_wp2_with (first
        | (go_at_call 35; go_loud ((with_reducible refine (cR.out _ HB.out).mono ?_); rintro e w_ ⟨⟨Al, cl, rfl, hlc, hC⟩, hb⟩; replace HB := Aside0.mk (below_step HB.out hb); clear hb; have HCL := Aside0.mk (⟨hlc, hC⟩ : _ ∧ _); clear hlc hC))
        | (go_at_call 14; go_loud ((with_reducible refine (cB.out _ _ _ HB.out HCL.out.2 HCL.out.1).mono ?_); rintro e w_ ⟨v, rfl, hR, hb⟩; replace HB := Aside0.mk (below_step HB.out hb); clear hb HCL; obtain ⟨Ab, cb, eb⟩ := Kd.R_slice hR; subst eb; rw [HNB.out] at hR ⊢; have HV := Aside0.mk hR; clear hR))
        | (go_at_call 34; go_loud ((with_reducible refine (cG4.out _ HB.out).mono ?_); rintro e w_ ⟨rfl, hb⟩; replace HV := Aside0.mk (Kd.R_below HV.out hb); replace HB := Aside0.mk (below_step HB.out hb); clear hb)))
      go_ret2
      exact ⟨_, rfl, HV.out, HB.out⟩
end Go.Proofs.Ytnlneiiccoakjaa.P
