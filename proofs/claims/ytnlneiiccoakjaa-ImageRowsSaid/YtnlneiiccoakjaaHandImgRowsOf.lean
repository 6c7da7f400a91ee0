/-
image.rows, walked by hand: the rows of packed bytes.
Conditions: none.
-/
import Derived.Test.YtnlneiiccoakjaaHandImgGiven
import Derived.Test.YtnlneiiccoakjaaHandImgRef
namespace Go.Proofs.Ytnlneiiccoakjaa.P
open Go.RowKit Go.Proofs.YtnlneiiccoakjaaW.PrintWords Go.Proofs.YtnlneiiccoakjaaW.PrintLast Go.Proofs.YtnlneiiccoakjaaW.PrintMore
attribute [local go_sem] max2_int min2_int max_two min_two max_three min_three max_four min_four
set_option linter.unusedVariables false
set_option linter.unusedSimpArgs false
open Go.Proofs.Ytnlneiiccoakjaa.Num
/-- The rows of packed bytes, if they are some. -/
def rowsQ : Nat → List Int → Option (List S41)
  | _, [] => some []
  | 0, _ :: _ => none
  | k + 1, b :: t =>
    if (b :: t).length < 3 then none
    else if b = 1 then (if ((b :: t).drop 3).length < 256 * (getS (((b :: t).take 3).drop 1)).toNat then none
      else (rowsQ k (((b :: t).drop 3).drop (256 * (getS (((b :: t).take 3).drop 1)).toNat))).map fun l => ⟨b, getS (((b :: t).take 3).drop 1), ((b :: t).drop 3).take (256 * (getS (((b :: t).take 3).drop 1)).toNat)⟩ :: l)
    else (rowsQ k ((b :: t).drop 3)).map fun l => ⟨b, getS (((b :: t).take 3).drop 1), []⟩ :: l
def rowsOf (p : List Int) : Option (List S41) := rowsQ p.length p
/-- An element whose bytes lie in elder memory. -/
def E0 (w0 : World) (x : S41) (cs : List Value) : Prop := ∃ A c, cs = [.int .i64 x.f0, .int .i64 x.f1, .slice A x.f2.length c] ∧ x.f2.length ≤ c ∧ (Kd.int .u8).C w0 A x.f2.length x.f2
def NewR (w0 : World) (kd cnt : Int) (x : Option (Nat × Bool)) (w_ : World) : Prop :=
  match x with
  | none => True
  | some (g, b) => w0.heap.size ≤ g ∧ w_.heap[g]? = some (.cells #[.int .i64 (bif b then kd else 0), .int .i64 (bif b then cnt else 0), .slice none 0 0] 41 (0, 0))
theorem NewR.below {w0 w_ w1 : World} {kd cnt : Int} {x : Option (Nat × Bool)} (h : NewR w0 kd cnt x w_) (hb : Below w_.heap.size w_ w1) : NewR w0 kd cnt x w1 := by
  cases x with
  | none => trivial
  | some y => exact ⟨h.1, blk_below h.2 hb⟩
def ptrOf : Option (Nat × Bool) → Value
  | none => undef
  | some (g, _) => .pointer (some ⟨g, 0, none⟩)
theorem store_row_run {w : World} {o : Oper} {a : Act} {p : Tmp} {v : Operand} (ho : o.op = .store 41 (.tmp p) v) {g : Nat} {k c : Int} {x0 x1 x2 : Value} (hx : a.eval (.tmp p) = .pointer (some ⟨g, 0, none⟩)) (hy : a.eval v = .agg #[.int .i64 k, .int .i64 c, .slice none 0 0])
    (hg : w.heap[g]? = some (.cells #[x0, x1, x2] 41 (0, 0))) : (execOp a.eval o).run Try.prog w = .ok .skip (w.setRow g #[.int .i64 k, .int .i64 c, .slice none 0 0]) := by
  obtain ⟨i0, hi, _, hsz, _⟩ := info_parts infoRow
  unfold execOp
  simp only [ho, hx, hy, Instr.storeAt, Instr.sureAddr, Sem.run_bind, Sem.run_pure, Result.andThen_ok, run_storeVar_row w g 41 41 #[x0, x1, x2] #[.int .i64 k, .int .i64 c, .slice none 0 0] hg (by rw [hi, Option.map_some, hsz]; rfl) rfl (by simp; exact ⟨rfl, rfl, rfl⟩)]
theorem map_snoc (o : Option (List S41)) (L : List S41) (x : S41) : (o.map fun l => x :: l).map (L ++ ·) = o.map ((L ++ [x]) ++ ·) := by cases o <;> simp
theorem E0_K {w w' : World} {x : S41} {cs : List Value} (h : E0 w x cs) (hb : Below w.heap.size w w') : k41.K w' x cs := by
  obtain ⟨A, c, rfl, hl, hC⟩ := h
  exact k41_mk w' x hl (Kd.C_below hC hb)
theorem rowsQ_small {k : Nat} {q : List Int} (h0 : 0 < q.length) (h : q.length < 3) : rowsQ k q = none := by
  match k, q, h0 with
  | 0, _ :: _, _ => rfl
  | k + 1, b :: t, _ => rw [rowsQ, if_pos h]
theorem rowsQ_step {k : Nat} {q : List Int} (h : 3 ≤ q.length) (kd cnt : Int) (hk : kd = rd q 0) (hc : cnt = getS ((q.take 3).drop 1)) : rowsQ (k + 1) q = (if kd = 1 then (if (q.drop 3).length < 256 * cnt.toNat then none else (rowsQ k ((q.drop 3).drop (256 * cnt.toNat))).map fun l => ⟨kd, cnt, (q.drop 3).take (256 * cnt.toNat)⟩ :: l) else (rowsQ k (q.drop 3)).map fun l => ⟨kd, cnt, []⟩ :: l) := by
  match q, h with
  | b :: t, h =>
    have e : kd = b := by rw [hk]; rfl
    subst e
    subst hc
    rw [rowsQ, if_neg (by omega)]
def RowsOut (R : Option (List S41)) (e : Ending) (w' : World) : Prop :=
  match R with
  | none => e = .returned (.tuple #[.slice none 0 0, .bool false])
  | some l => ∃ A c, e = .returned (.tuple #[.slice A l.length c, .bool true]) ∧ l.length ≤ c ∧ Kd.C k41 w' A l.length l
theorem take_cap_at (A : Option Addr) (n c m : Nat) (hc : m ≤ c) (W : World) : (Instr.slice 22 (.slice A n c) none (some (.int .i64 (m : Int))) (some (.int .i64 (m : Int)))).run Try.prog W = .ok (.slice A m m) W := by
  obtain ⟨i0, hi, _, hsz, _⟩ := info_parts info5
  have hel : Try.prog.elem 22 = 5 := by simp [Program.elem, Try.underlying22]
  have hu : Try.prog.underlying 22 = some (.slice (Try.prog.elem 22)) := by rw [hel]; exact Try.underlying22
  have ha : (A.map fun x => x.add 0) = A := by cases A <;> simp [Addr.add]
  rw [run_slice_hm W 22 A n c hu .i64 .i64 (m : Int) (m : Int) (by omega) (by omega) (by omega), hel]
  simp [sizeOf, typeInfo, hi, hsz, sliced, Result.andThen, ha]
theorem drop_at (A : Option Addr) (xs : List Int) (c m : Nat) (h : m ≤ xs.length) (hc : xs.length ≤ c) :
    ∃ A' : Option Addr, (∀ W : World, (Instr.slice 22 (.slice A xs.length c) (some (.int .i64 (m : Int))) none none).run Try.prog W = .ok (.slice A' (xs.length - m) (c - m)) W) ∧
      (∀ w : World, (Kd.int .u8).C w A xs.length xs → (Kd.int .u8).C w A' (xs.drop m).length (xs.drop m)) := by
  obtain ⟨i0, hi, _, hsz, _⟩ := info_parts info5
  obtain ⟨A', h1, h2, _⟩ := print_drop_of (P := Try.prog) (Value.int .u8) (0 : Int) 22 5 .i64 Try.underlying22 hi hsz A c xs (m : Int) (by omega) (by omega) hc
  simp only [Int.toNat_natCast] at h1 h2
  refine ⟨A', fun W => ?_, fun w hr => Kd.C_of_reads (h1 := fun _ => rfl) (h2 w (Kd.reads_of_C hr))⟩
  have := h1 W
  rw [List.length_drop] at this
  exact this
theorem byte_at {w : World} {A : Option Addr} {q : List Int} (h : (Kd.int .u8).C w A q.length q) (h0 : 0 < q.length) : ∃ ad : Addr, A = some ad ∧ w.cell? ad = some (.int .u8 (rd q 0)) := by
  obtain ⟨ad, e, hc⟩ := (Kd.reads_of_C (d := (0 : Int)) h).2.2 h0
  refine ⟨ad, e, ?_⟩
  have := hc 0 h0
  rw [show ad.add 0 = ad from by simp [Addr.add]] at this
  exact this
def image_rows.T5 : Bool × List (List Nat × List Nat) := (true, [([], []), ([0], [0]), ([1], [1]), ([2], [2]), ([], []), ([4], [4]), ([5], [5]), ([6], [6]), ([3, 7], [3, 7]), ([], []), ([9, 8, 6, 0, 1, 2, 3, 4, 5, 6, 7, 8, 9], [8, 9])])
def image_rows.B5 : List Nat := [0, 1, 3, 7, 0, 16, 48, 112, 255, 0, 1023]
theorem image_rows.tab5 : rtab .any (opsOf Try.f35 5) = image_rows.T5 := by kernel_rfl
theorem image_rows.bits5 : waitsOk image_rows.T5.2 image_rows.B5 = true := by kernel_rfl
def image_rows.T11 : Bool × List (List Nat × List Nat) := (true, [([], []), ([], []), ([], []), ([0, 1, 2], [0, 1, 2]), ([], []), ([], []), ([4, 5], [4, 5]), ([0, 1, 2, 3], []), ([7, 3, 0, 1, 2, 3], [3, 7]), ([6, 8, 0, 1, 2, 3, 4, 5, 6, 7, 8], [0, 4, 6])])
def image_rows.B11 : List Nat := [0, 0, 0, 7, 0, 0, 48, 15, 143, 511]
theorem image_rows.tab11 : rtab .any (opsOf Try.f35 11) = image_rows.T11 := by kernel_rfl
theorem image_rows.bits11 : waitsOk image_rows.T11.2 image_rows.B11 = true := by kernel_rfl
set_option maxHeartbeats 16000000 in
set_option maxRecDepth 100000 in
theorem image_rows.calls (A0 : Option Addr) (c0 : Nat) (p : List Int) (w : World) (hr0 : Kd.C (Kd.int .u8) w A0 p.length p) (hc0 : p.length ≤ c0) (hbp : isBytes p) (hlp : p.length ≤ 1099511627776) :
    Calls Try.prog 35 #[.slice A0 p.length c0] w fun e w' => RowsOut (rowsOf p) e w' ∧ Below w.heap.size w w' := by
  have HB := Aside0.mk (Below.refl w.heap.size w)
  obtain ⟨R, hR⟩ : ∃ R, R = rowsOf p := ⟨_, rfl⟩
  rw [← hR]
  have HR : Aside0 (R = rowsOf p) := ⟨hR⟩
  have HR0 := Aside0.mk hr0
  have HC0 := Aside0.mk hc0
  have HBP := Aside0.mk hbp
  have HLP := Aside0.mk hlp
  clear hR hr0 hc0 hbp hlp
  go_enter Try.func35, Try.ntmps35
  go_wp2
  go_loopw [0, 4] (fun v0 v4 wr => ∃ (q : List Int) (A : Option Addr) (c k : Nat) (L : List S41) (u : Value) (inner : List Value), v0 = .slice A q.length c ∧ v4 = u ∧ Aside0 (R = (rowsQ k q).map (L ++ ·) ∧ q.length ≤ k ∧ isBytes q ∧ q.length + 3 * L.length ≤ p.length) ∧ Aside0 ((Kd.int .u8).C w A q.length q ∧ q.length ≤ c) ∧
      Aside0 (wr.ownsRow w.heap.size 41 3 u L.length inner ∧ Reps (E0 w) 3 L inner) ∧ Aside0 (Below w.heap.size w wr)) (fun v0 _ _ => lenOf v0)
  case atStart => exact ⟨p, A0, c0, p.length, [], _, [], rfl, rfl, ⟨by rw [HR.out]; unfold rowsOf; cases rowsQ p.length p <;> rfl, Nat.le_refl _, HBP.out, by simp⟩, ⟨HR0.out, HC0.out⟩, ⟨own_nil _ _ _ _, Reps.none _ _⟩, HB⟩
  case round =>
    clear HB
    obtain ⟨q, A, c, k, L, u, inner, rfl, hu, HQ, HA, HOR, HW⟩ := hrel
    have hu' := hu.symm
    clear hu
    subst hu'
    have HB := Aside0.mk (Below.refl wr.heap.size wr)
    obtain ⟨Au, cu, eu⟩ := own_slice HOR.out.1
    subst eu
    obtain ⟨ml, hml⟩ : ∃ ml, ml = L.length := ⟨_, rfl⟩
    have HO : Aside0 (wr.ownsRow w.heap.size 41 3 (.slice Au ml cu) L.length inner) := ⟨by rw [hml]; exact HOR.out.1⟩
    have HRE := Aside0.mk HOR.out.2
    have HML : Aside0 (ml = L.length) := ⟨hml⟩
    rw [← hml]
    clear hml HOR
    have HBL : Aside0 ((L.length + 1) * 40 ≤ 140737488355328) := ⟨by have := HQ.out.2.2.2; have := HLP.out; omega⟩
    by_cases h0 : 0 < q.length
    case neg =>
      have hq0 : q = [] := List.eq_nil_of_length_eq_zero (by omega)
      have HE : Aside0 (R = some L) := ⟨by rw [HQ.out.1, hq0]; cases k <;> simp [rowsQ]⟩
      clear hq0
      go_wp2
      go_ret2
      obtain ⟨A', c', e, hle, hr⟩ := OwnRow.reads (⟨inner, HO.out, HRE.out.imp_ (fun x cs h => E0_K h (below_step HW.out HB.out))⟩ : OwnRow (k41.K wr) 41 3 wr w.heap.size (.slice Au ml cu) L)
      rw [HML.out] at e
      injection e with e1 e2 e3
      subst e1
      subst e3
      have he := HE.out
      subst he
      exact ⟨⟨_, _, by rw [HML.out]; rfl, hle, hr⟩, HW.out⟩
    by_cases h3 : q.length < 3
    · have HE : Aside0 (R = none) := ⟨by rw [HQ.out.1, rowsQ_small h0 h3]; rfl⟩
      go_wp2
      go_ret2
      have he := HE.out
      subst he
      exact ⟨rfl, HW.out⟩
    have hq3 : 3 ≤ q.length := by omega
    obtain ⟨k, rfl⟩ : ∃ j, k = j + 1 := ⟨k - 1, by have := HQ.out.2.1; omega⟩
    obtain ⟨ad, eA, hx0⟩ := byte_at HA.out.1 h0
    subst eA
    obtain ⟨kd, hkd⟩ : ∃ kd, kd = rd q 0 := ⟨_, rfl⟩
    rw [← hkd] at hx0
    obtain ⟨cnt, hcnt⟩ : ∃ cnt, cnt = getS ((q.take 3).drop 1) := ⟨_, rfl⟩
    have hcb : isBytes ((q.take 3).drop 1) := fun x hx => HQ.out.2.2.1 x (List.mem_of_mem_take (List.mem_of_mem_drop hx))
    obtain ⟨A1, hcutC, hC1, hl1⟩ := mid_cut (some ad) c q 1 3 1 3 rfl rfl (by decide) hq3 HA.out.2
    have hcr := getS_range _ hcb
    rw [hl1, ← hcnt] at hcr
    have HCR : Aside0 (0 ≤ cnt ∧ cnt < 65536) := ⟨hcr⟩
    have hkb : 0 ≤ kd ∧ kd < 256 := by
      rw [hkd]
      have e : rd q 0 = q[0] := rd_eq q 0 (by omega)
      rw [e]
      exact HQ.out.2.2.1 _ (List.getElem_mem _)
    have HKB := Aside0.mk hkb
    have cG : Aside0 (∀ w' : World, Below wr.heap.size wr w' → Calls Try.prog 34 #[.slice A1 2 (c - 1)] w' fun e w'' => e = .returned (.int .u64 cnt) ∧ Below w'.heap.size w' w'') := ⟨fun w' hb => by
      have g := num_Get.calls 9 A1 (c - 1) ((q.take 3).drop 1) cnt w' (Kd.C_below (hC1 w HA.out.1) (below_step HW.out hb)) (by rw [hl1]; have := HA.out.2; omega) (by rw [Get_eq 9 _ hcb (by decide), List.take_of_length_le (by rw [hl1]; decide), hcnt])
      rw [hl1] at g
      exact g⟩
    obtain ⟨A3, hcut3, hC3⟩ := drop_at (some ad) q c 3 hq3 HA.out.2
    have hq3r : (Kd.int .u8).C w A3 (q.drop 3).length (q.drop 3) := hC3 w HA.out.1
    obtain ⟨rn, hrn⟩ : ∃ rn : Nat, rn = 256 * cnt.toNat := ⟨_, rfl⟩
    have HRN : Aside0 (rn = 256 * cnt.toNat ∧ cnt * 256 = (rn : Int) ∧ rn ≤ 16777216) := ⟨by omega⟩
    have HST : Aside0 (rowsQ (k + 1) q = (if kd = 1 then (if (q.drop 3).length < rn then none else (rowsQ k ((q.drop 3).drop rn)).map fun l => ⟨kd, cnt, (q.drop 3).take rn⟩ :: l) else (rowsQ k (q.drop 3)).map fun l => ⟨kd, cnt, []⟩ :: l)) := ⟨by rw [hrn]; exact rowsQ_step hq3 kd cnt hkd hcnt⟩
    obtain ⟨q3, hq3e⟩ : ∃ q3, q3 = q.drop 3 := ⟨_, rfl⟩
    have HQ3 : Aside0 (q3 = q.drop 3 ∧ q3.length = q.length - 3) := ⟨hq3e, by rw [hq3e, List.length_drop]⟩
    rw [← hq3e] at HST hq3r
    have HA3 := Aside0.mk hq3r
    have hcc : 3 ≤ (c : Int) := by have := HA.out.2; omega
    have HKW : Aside0 (wrap64 kd = kd) := ⟨w64 (by omega) (by omega)⟩
    have HCW : Aside0 (wrap64 cnt = cnt) := ⟨w64 (by omega) (by omega)⟩
    have HWM : Aside0 (wrap64 (rn : Int) = (rn : Int)) := ⟨w64 (by omega) (by omega)⟩
    clear hrn hkb hcr hcb hC1 hl1 hC3 hq3r hq3e hkd hcnt
    have HCC := Aside0.mk hcutC
    obtain ⟨n3, hn3⟩ : ∃ n3, n3 = q.length - 3 := ⟨_, rfl⟩
    obtain ⟨c3, hc3⟩ : ∃ c3, c3 = c - 3 := ⟨_, rfl⟩
    replace hcut3 : ∀ W : World, (Instr.slice 22 (.slice (some ad) q.length c) (some (.int .i64 3)) none none).run Try.prog W = .ok (.slice A3 n3 c3) W := by rw [hn3, hc3]; exact hcut3
    have HN3 : Aside0 (n3 = q.length - 3 ∧ c3 = c - 3 ∧ 3 ≤ q.length) := ⟨⟨hn3, hc3, hq3⟩⟩
    clear hn3 hc3
    have HC3 := Aside0.mk hcut3
    clear hcutC hcut3
    go_wp2
    refine QN.q_start (n := 11) (S := fun (x : Option (Nat × Bool)) w_ => Below wr.heap.size wr w_ ∧ NewR wr kd cnt x w_) (ds := []) none #[false, false, false, false, false, false, false, false, false, false, false] (by kernel_rfl) rfl rfl ⟨below_drew HB.out, trivial⟩ ?_
    clear HB
    refine QN.q_tab image_rows.tab5 image_rows.bits5 (fun HT_ HW_ => ?_)
    refine QN.q_take (i := 0) (N := some 13) (v := ?_) (a' := ?_) #[true, false, false, false, false, false, false, false, false, false, false] rfl rfl (take_ofW HT_.out HW_.out (by kernel_rfl)) (by decide) (QN.quiet_val (by rfl) ?_) ?_ ?_
    rotate_left
    · intro x w_ _
      go_simp
      with_reducible rfl
    rotate_left
    · simp only [Act.put, List.setIfInBounds_toArray, List.set_cons_zero, List.set_cons_succ, i64_w, i32_w, List.getElem_toArray, List.getElem_cons_succ, List.getElem_cons_zero]
      rfl
    refine QN.q_take (i := 1) (N := some 14) (v := ?_) (a' := ?_) #[true, true, false, false, false, false, false, false, false, false, false] rfl rfl (take_ofW HT_.out HW_.out (by kernel_rfl)) (by decide) (QN.quiet_val (by rfl) ?_) ?_ ?_
    rotate_left
    · intro x w_ _
      go_simp
      with_reducible rfl
    rotate_left
    · simp only [Act.put, List.setIfInBounds_toArray, List.set_cons_zero, List.set_cons_succ, i64_w, i32_w, List.getElem_toArray, List.getElem_cons_succ, List.getElem_cons_zero]
      rfl
    refine QN.q_take (i := 2) (N := some 15) (v := ?_) (a' := ?_) #[true, true, true, false, false, false, false, false, false, false, false] rfl rfl (take_ofW HT_.out HW_.out (by kernel_rfl)) (by decide) (QN.quiet_val (by rfl) ?_) ?_ ?_
    rotate_left
    · rintro x w_ ⟨hB, _⟩
      have c0_ := cell_under (cell_under hx0 HW.out) hB
      go_simp
      with_reducible rfl
    rotate_left
    · simp only [Act.put, List.setIfInBounds_toArray, List.set_cons_zero, List.set_cons_succ, i64_w, i32_w, List.getElem_toArray, List.getElem_cons_succ, List.getElem_cons_zero]
      rfl
    refine QN.q_take (i := 3) (N := some 16) (v := .int .i64 kd) (a' := ?_) #[true, true, true, true, false, false, false, false, false, false, false] rfl rfl (take_ofW HT_.out HW_.out (by kernel_rfl)) (by decide) (QN.quiet_val (by rfl) ?_) ?_ ?_
    · intro x w_ _
      have h1_ := HKW.out
      have h2_ : IntKind.i64.wrap kd = kd := (i64_w _).trans h1_
      go_simp
    rotate_left
    · simp only [Act.put, List.setIfInBounds_toArray, List.set_cons_zero, List.set_cons_succ, i64_w, i32_w, List.getElem_toArray, List.getElem_cons_succ, List.getElem_cons_zero]
      rfl
    refine QN.q_take (i := 4) (N := some 17) (v := ?_) (a' := ?_) #[true, true, true, true, true, false, false, false, false, false, false] rfl rfl (take_ofW HT_.out HW_.out (by kernel_rfl)) (by decide) (QN.quiet_val (by rfl) ?_) ?_ ?_
    rotate_left
    · intro x w_ _
      go_simp
      with_reducible rfl
    rotate_left
    · simp only [Act.put, List.setIfInBounds_toArray, List.set_cons_zero, List.set_cons_succ, i64_w, i32_w, List.getElem_toArray, List.getElem_cons_succ, List.getElem_cons_zero]
      rfl
    refine QN.q_take (i := 5) (N := some 18) (v := .slice A1 2 (c - 1)) (a' := ?_) #[true, true, true, true, true, true, false, false, false, false, false] rfl rfl (take_ofW HT_.out HW_.out (by kernel_rfl)) (by decide) (QN.quiet_val (by rfl) ?_) ?_ ?_
    · intro x w_ _
      have hc_ := HCC.out
      go_simp
    rotate_left
    · simp only [Act.put, List.setIfInBounds_toArray, List.set_cons_zero, List.set_cons_succ, i64_w, i32_w, List.getElem_toArray, List.getElem_cons_succ, List.getElem_cons_zero]
      rfl
    refine QN.q_take (i := 6) (N := some 19) (v := .int .u64 cnt) (a' := ?_) #[true, true, true, true, true, true, true, false, false, false, false] rfl rfl (take_ofW HT_.out HW_.out (by kernel_rfl)) (by decide) (QN.quiet_call Try.func34 (by kernel_rfl) rfl #[.slice A1 2 (c - 1)] (by rfl) rfl (by (try simp only [List.map_toArray, List.map_cons, List.map_nil]); first | done | rfl) ?_) ?_ ?_
    · rintro x w_ ⟨hB, hN⟩
      with_reducible refine (cG.out _ hB).mono ?_
      rintro e w_2 ⟨rfl, hb⟩
      exact ⟨rfl, below_step hB hb, hN.below hb⟩
    rotate_left
    · simp only [Act.put, List.setIfInBounds_toArray, List.set_cons_zero, List.set_cons_succ, i64_w, i32_w, List.getElem_toArray, List.getElem_cons_succ, List.getElem_cons_zero]
      rfl
    refine QN.q_take (i := 7) (N := some 20) (v := .int .i64 cnt) (a' := ?_) #[true, true, true, true, true, true, true, true, false, false, false] rfl rfl (take_ofW HT_.out HW_.out (by kernel_rfl)) (by decide) (QN.quiet_val (by rfl) ?_) ?_ ?_
    · intro x w_ _
      have h1_ := HCW.out
      have h2_ : IntKind.i64.wrap cnt = cnt := (i64_w _).trans h1_
      go_simp
    rotate_left
    · simp only [Act.put, List.setIfInBounds_toArray, List.set_cons_zero, List.set_cons_succ, i64_w, i32_w, List.getElem_toArray, List.getElem_cons_succ, List.getElem_cons_zero]
      rfl
    refine QN.q_take (i := 8) (N := some 21) (v := ?_) (a' := ?_) #[true, true, true, true, true, true, true, true, true, false, false] rfl rfl (take_ofW HT_.out HW_.out (by kernel_rfl)) (by decide) (QN.quiet_val (by rfl) ?_) ?_ ?_
    rotate_left
    · intro x w_ _
      go_simp
      with_reducible rfl
    rotate_left
    · simp only [Act.put, List.setIfInBounds_toArray, List.set_cons_zero, List.set_cons_succ, i64_w, i32_w, List.getElem_toArray, List.getElem_cons_succ, List.getElem_cons_zero]
      rfl
    refine QN.q_new (i := 9) (N := some 5) (f := ptrOf) (Nw := fun x => ∃ g, x = some (g, false)) #[true, true, true, true, true, true, true, true, true, true, false] rfl rfl (one_of HT_.out (by kernel_rfl)) (by decide) (QN.new_val (by rfl) ?_) ?_
    · rintro w_ ⟨hB, _⟩
      exact ⟨some (w_.heap.size, false), w_.alloc (.cells #[.int .i64 0, .int .i64 0, .slice none 0 0] 41 (0, 0)), by kernel_rfl, ⟨_, rfl⟩, below_alloc hB _, hB.size, blk_new _ _⟩
    rintro _ ⟨g, rfl⟩
    refine QN.norm_q (a' := ?_) ?_ ?_
    rotate_left
    · show Act.put _ (some 5) (.pointer (some ⟨g, 0, none⟩)) = _
      simp only [Act.put, List.setIfInBounds_toArray, List.set_cons_zero, List.set_cons_succ, i64_w, i32_w]
      rfl
    refine QN.q_new (i := 10) (N := none) (f := fun _ => undef) (Nw := fun x => x = some (g, true)) #[true, true, true, true, true, true, true, true, true, true, true] rfl rfl (one_of HT_.out (by kernel_rfl)) (by decide) (QN.new_skip (by rfl) ?_) ?_
    · rintro w_ ⟨hB, hg0, hN⟩
      exact ⟨some (g, true), _, store_row_run rfl rfl rfl hN, rfl, rfl, below_setRow hB hg0 _, hg0, setRow_heap _ _ _ _ _ _ hN⟩
    rintro _ rfl
    refine QN.norm_q (a' := ?_) ?_ ?_
    rotate_left
    · simp only [Act.put]
      rfl
    refine QN.q_done (done_of HT_.out (by kernel_rfl)) ?_
    rintro w_ ⟨hB, hg0, hN⟩
    have HB := Aside0.mk hB
    have GE_HX := Aside0.mk hg0
    have HX : Aside0 (w_.heap[g]? = some (.cells #[.int .i64 kd, .int .i64 cnt, .slice none 0 0] 41 (0, 0))) := ⟨hN⟩
    clear hB hg0 hN
    have cHX_0 := (blk_cell HX.out 0).trans (show _ = some (Value.int .i64 kd) from rfl)
    have cHX_1 := (blk_cell HX.out 1).trans (show _ = some (Value.int .i64 cnt) from rfl)
    have cHX_2 := (blk_cell HX.out 2).trans (show _ = some (Value.slice none 0 0) from rfl)
    have hcut3 := HC3.out
    have hwm := HWM.out
    have hcm := HRN.out.2.1
    by_cases hk : kd = 1
    · have hk1 : (kd == 1) = true := beq_iff_eq.mpr hk
      have HST1 : Aside0 (rowsQ (k + 1) q = (if q3.length < rn then none else (rowsQ k (q3.drop rn)).map fun l => ⟨kd, cnt, q3.take rn⟩ :: l)) := ⟨by rw [HST.out, if_pos hk]⟩
      clear hk
      by_cases hlt : n3 < rn
      · have HE : Aside0 (R = none) := ⟨by rw [HQ.out.1, HST1.out, if_pos (by rw [HQ3.out.2, ← HN3.out.1]; exact hlt)]; rfl⟩
        go_wp2
        go_ret2
        have he := HE.out
        subst he
        exact ⟨rfl, below_step HW.out HB.out⟩
      · obtain ⟨A4, hcutD, hC4⟩ := drop_at A3 q3 c3 rn (by rw [HQ3.out.2, ← HN3.out.1]; omega) (by rw [HQ3.out.2, HN3.out.2.1]; have := HA.out.2; omega)
        rw [HQ3.out.2, ← HN3.out.1] at hcutD
        have HA4 := Aside0.mk (hC4 w HA3.out)
        have HCD := Aside0.mk hcutD
        have HRP2 : Aside0 (rn ≤ n3) := ⟨by omega⟩
        have HRP : Aside0 ((rn : Int) ≤ (c3 : Int)) := ⟨by have := HRP2.out; have := HN3.out; have := HA.out.2; omega⟩
        have HCM := Aside0.mk (take_cap_at A3 n3 c3 rn (by have := HRP.out; omega))
        have HTK : Aside0 ((Kd.int .u8).C w A3 (q3.take rn).length (q3.take rn) ∧ (q3.take rn).length = rn) := ⟨take_reads rn HA3.out (by rw [HQ3.out.2, ← HN3.out.1]; exact HRP2.out), by rw [List.length_take, HQ3.out.2, ← HN3.out.1]; exact Nat.min_eq_left HRP2.out⟩
        clear hcutD hC4
        go_wp2
        clear cHX_0 cHX_1 cHX_2
        refine QN.q_start (n := 10) (S := fun (x : Bool) w_ => Below wr.heap.size wr w_ ∧ w_.heap[g]? = some (.cells #[.int .i64 kd, .int .i64 cnt, bif x then .slice A3 rn rn else .slice none 0 0] 41 (0, 0))) (ds := []) false #[false, false, false, false, false, false, false, false, false, false] (by kernel_rfl) rfl rfl ⟨below_drew HB.out, blk_drew HX.out⟩ ?_
        clear HB HX
        refine QN.q_tab image_rows.tab11 image_rows.bits11 (fun HT_ HW_ => ?_)
        refine QN.q_take (i := 0) (N := some 34) (v := ?_) (a' := ?_) #[true, false, false, false, false, false, false, false, false, false] rfl rfl (take_ofW HT_.out HW_.out (by kernel_rfl)) (by decide) (QN.quiet_val (by rfl) ?_) ?_ ?_
        rotate_left
        · intro x w_ _
          go_simp
          with_reducible rfl
        rotate_left
        · simp only [Act.put, List.setIfInBounds_toArray, List.set_cons_zero, List.set_cons_succ, i64_w, i32_w, List.getElem_toArray, List.getElem_cons_succ, List.getElem_cons_zero]
          rfl
        refine QN.q_take (i := 1) (N := some 35) (v := ?_) (a' := ?_) #[true, true, false, false, false, false, false, false, false, false] rfl rfl (take_ofW HT_.out HW_.out (by kernel_rfl)) (by decide) (QN.quiet_val (by rfl) ?_) ?_ ?_
        rotate_left
        · intro x w_ _
          go_simp
          with_reducible rfl
        rotate_left
        · simp only [Act.put, List.setIfInBounds_toArray, List.set_cons_zero, List.set_cons_succ, i64_w, i32_w, List.getElem_toArray, List.getElem_cons_succ, List.getElem_cons_zero]
          rfl
        refine QN.q_take (i := 2) (N := some 36) (v := ?_) (a' := ?_) #[true, true, true, false, false, false, false, false, false, false] rfl rfl (take_ofW HT_.out HW_.out (by kernel_rfl)) (by decide) (QN.quiet_val (by rfl) ?_) ?_ ?_
        rotate_left
        · intro x w_ _
          go_simp
          with_reducible rfl
        rotate_left
        · simp only [Act.put, List.setIfInBounds_toArray, List.set_cons_zero, List.set_cons_succ, i64_w, i32_w, List.getElem_toArray, List.getElem_cons_succ, List.getElem_cons_zero]
          rfl
        refine QN.q_take (i := 3) (N := some 37) (v := .slice A3 rn rn) (a' := ?_) #[true, true, true, true, false, false, false, false, false, false] rfl rfl (take_ofW HT_.out HW_.out (by kernel_rfl)) (by decide) (QN.quiet_val (by rfl) ?_) ?_ ?_
        · intro x w_ _
          have h_ := HCM.out
          have h2_ := HRP.out
          go_simp
        rotate_left
        · simp only [Act.put, List.setIfInBounds_toArray, List.set_cons_zero, List.set_cons_succ, i64_w, i32_w, List.getElem_toArray, List.getElem_cons_succ, List.getElem_cons_zero]
          rfl
        refine QN.q_take (i := 4) (N := some 38) (v := ?_) (a' := ?_) #[true, true, true, true, true, false, false, false, false, false] rfl rfl (take_ofW HT_.out HW_.out (by kernel_rfl)) (by decide) (QN.quiet_val (by rfl) ?_) ?_ ?_
        rotate_left
        · intro x w_ _
          go_simp
          with_reducible rfl
        rotate_left
        · simp only [Act.put, List.setIfInBounds_toArray, List.set_cons_zero, List.set_cons_succ, i64_w, i32_w, List.getElem_toArray, List.getElem_cons_succ, List.getElem_cons_zero]
          rfl
        refine QN.q_take (i := 5) (N := some 39) (v := ?_) (a' := ?_) #[true, true, true, true, true, true, false, false, false, false] rfl rfl (take_ofW HT_.out HW_.out (by kernel_rfl)) (by decide) (QN.quiet_val (by rfl) ?_) ?_ ?_
        rotate_left
        · intro x w_ _
          go_simp
          with_reducible rfl
        rotate_left
        · simp only [Act.put, List.setIfInBounds_toArray, List.set_cons_zero, List.set_cons_succ, i64_w, i32_w, List.getElem_toArray, List.getElem_cons_succ, List.getElem_cons_zero]
          rfl
        refine QN.q_take (i := 6) (N := some 40) (v := .slice A4 (n3 - rn) (c3 - rn)) (a' := ?_) #[true, true, true, true, true, true, true, false, false, false] rfl rfl (take_ofW HT_.out HW_.out (by kernel_rfl)) (by decide) (QN.quiet_val (by rfl) ?_) ?_ ?_
        · intro x w_ _
          have h_ := HCD.out
          have h2_ := HRP2.out
          go_simp
        rotate_left
        · simp only [Act.put, List.setIfInBounds_toArray, List.set_cons_zero, List.set_cons_succ, i64_w, i32_w, List.getElem_toArray, List.getElem_cons_succ, List.getElem_cons_zero]
          rfl
        refine QN.q_take (i := 7) (N := some 41) (v := ?_) (a' := ?_) #[true, true, true, true, true, true, true, true, false, false] rfl rfl (take_ofW HT_.out HW_.out (by kernel_rfl)) (by decide) (QN.quiet_val (by rfl) ?_) ?_ ?_
        rotate_left
        · intro x w_ _
          go_simp
          with_reducible rfl
        rotate_left
        · simp only [Act.put, List.setIfInBounds_toArray, List.set_cons_zero, List.set_cons_succ, i64_w, i32_w, List.getElem_toArray, List.getElem_cons_succ, List.getElem_cons_zero]
          rfl
        refine QN.q_new (i := 8) (N := none) (f := fun _ => undef) (Nw := fun x => x = true) #[true, true, true, true, true, true, true, true, true, false] rfl rfl (one_of HT_.out (by kernel_rfl)) (by decide) (QN.new_skip (by rfl) ?_) ?_
        · rintro w_ ⟨hB, hx⟩
          have x2_ := blk_cell hx 2
          have c2_ := x2_.trans (show _ = some (Value.slice none 0 0) from rfl)
          have f2_ := blk_frozen hx 2
          refine ⟨true, w_.setCell ⟨g, 2, none⟩ (.slice A3 rn rn), ?_, rfl, rfl, below_set hB GE_HX.out, blk_put hx 2 _ rfl⟩
          clear x2_
          go_simp
        rintro _ rfl
        refine QN.norm_q (a' := ?_) ?_ ?_
        rotate_left
        · simp only [Act.put]
          rfl
        refine QN.q_take (i := 9) (N := some 0) (v := ?_) (a' := ?_) #[true, true, true, true, true, true, true, true, true, true] rfl rfl (take_ofW HT_.out HW_.out (by kernel_rfl)) (by decide) (QN.quiet_val (by rfl) ?_) ?_ ?_
        rotate_left
        · intro x w_ _
          go_simp
          with_reducible rfl
        rotate_left
        · simp only [Act.put, List.setIfInBounds_toArray, List.set_cons_zero, List.set_cons_succ, i64_w, i32_w, List.getElem_toArray, List.getElem_cons_succ, List.getElem_cons_zero]
          rfl
        refine QN.q_done (done_of HT_.out (by kernel_rfl)) ?_
        rintro w_ ⟨hB, hx⟩
        have HB := Aside0.mk hB
        have HX : Aside0 (w_.heap[g]? = some (.cells #[.int .i64 kd, .int .i64 cnt, .slice A3 rn rn] 41 (0, 0))) := ⟨hx⟩
        clear hB hx
        have cHX_0 := (blk_cell HX.out 0).trans (show _ = some (Value.int .i64 kd) from rfl)
        have cHX_1 := (blk_cell HX.out 1).trans (show _ = some (Value.int .i64 cnt) from rfl)
        have cHX_2 := (blk_cell HX.out 2).trans (show _ = some (Value.slice A3 rn rn) from rfl)
        go_wp2_with (first
          | ((with_reducible refine gate_builtin (b := .append) (xs := #[.tmp 42, .tmp 44]) rfl ?_); at_builtin; go_loud (refine print_append_cells (w0 := w) w.heap.size rfl (.tmp 42) (.tmp 44) 26 41 (.agg #[(.int .i64 0), (.int .i64 0), (.slice none 0 0)]) 3 40 rfl Try.underlying26 infoRow rfl (by decide) (by omega) (.slice Au ml cu) L.length inner [.int .i64 kd, .int .i64 cnt, .slice A3 rn rn] rfl rfl rfl ?h1 (pw_own_below HO.out HB.out) (below_step HW.out HB.out) (below_step HW.out HB.out).size HBL.out ?_; (case h1 => intro u hu; simp at hu; rcases hu with rfl | rfl | rfl <;> rfl); intro v1_ w_ ho hb2 _ _; clear HB HX cHX_0 cHX_1 cHX_2; have HB := Aside0.mk hb2; have HO2 := Aside0.mk ho; clear ho hb2)))
        go_roundw
        case rel =>
          refine ⟨q3.drop rn, A4, c3 - rn, k, L ++ [⟨kd, cnt, q3.take rn⟩], v1_, _, by rw [List.length_drop, HQ3.out.2, ← HN3.out.1], rfl, ⟨?_, ?_, fun x hx => HQ.out.2.2.1 x (by have := List.mem_of_mem_drop hx; rw [HQ3.out.1] at this; exact List.mem_of_mem_drop this), ?_⟩, ⟨HA4.out, ?_⟩, ⟨by rw [List.length_append, List.length_singleton]; exact HO2.out, HRE.out.snoc ⟨A3, rn, by rw [HTK.out.2], by rw [HTK.out.2]; exact Nat.le_refl _, HTK.out.1⟩ rfl⟩, HB⟩
          · rw [HQ.out.1, HST1.out, if_neg (by rw [HQ3.out.2, ← HN3.out.1]; exact hlt), map_snoc]
          · rw [List.length_drop, HQ3.out.2]; have := HQ.out.2.1; omega
          · rw [List.length_drop, HQ3.out.2, List.length_append, List.length_singleton]; have := HQ.out.2.2.2; omega
          · rw [List.length_drop, HQ3.out.2, HN3.out.2.1]; have := HA.out.2; omega
        case measure =>
          simp only [lenOf]
          have := HN3.out
          omega
    · have hk1 : (kd == 1) = false := beq_eq_false_iff_ne.mpr hk
      have HST1 : Aside0 (rowsQ (k + 1) q = (rowsQ k q3).map fun l => ⟨kd, cnt, []⟩ :: l) := ⟨by rw [HST.out, if_neg hk]⟩
      clear hk
      go_wp2_with (first
        | ((with_reducible refine gate_builtin (b := .append) (xs := #[.tmp 42, .tmp 44]) rfl ?_); at_builtin; go_loud (refine print_append_cells (w0 := w) w.heap.size rfl (.tmp 42) (.tmp 44) 26 41 (.agg #[(.int .i64 0), (.int .i64 0), (.slice none 0 0)]) 3 40 rfl Try.underlying26 infoRow rfl (by decide) (by omega) (.slice Au ml cu) L.length inner [.int .i64 kd, .int .i64 cnt, .slice none 0 0] rfl rfl rfl ?h1 (pw_own_below HO.out HB.out) (below_step HW.out HB.out) (below_step HW.out HB.out).size HBL.out ?_; (case h1 => intro u hu; simp at hu; rcases hu with rfl | rfl | rfl <;> rfl); intro v1_ w_ ho hb2 _ _; clear HB HX cHX_0 cHX_1 cHX_2; have HB := Aside0.mk hb2; have HO2 := Aside0.mk ho; clear ho hb2)))
      go_roundw
      case rel =>
        refine ⟨q3, A3, c3, k, L ++ [⟨kd, cnt, []⟩], v1_, _, by rw [HQ3.out.2, ← HN3.out.1], rfl, ⟨by rw [HQ.out.1, HST1.out, map_snoc], ?_, fun x hx => HQ.out.2.2.1 x (by rw [HQ3.out.1] at hx; exact List.mem_of_mem_drop hx), ?_⟩, ⟨HA3.out, ?_⟩, ⟨by rw [List.length_append, List.length_singleton]; exact HO2.out, HRE.out.snoc ⟨none, 0, rfl, Nat.le_refl _, Kd.C_nil _ _⟩ rfl⟩, HB⟩
        · rw [HQ3.out.2]; have := HQ.out.2.1; omega
        · rw [HQ3.out.2, List.length_append, List.length_singleton]; have := HQ.out.2.2.2; omega
        · rw [HQ3.out.2, HN3.out.2.1]; have := HA.out.2; omega
      case measure =>
        simp only [lenOf]
        have := HN3.out
        omega
end Go.Proofs.Ytnlneiiccoakjaa.P
