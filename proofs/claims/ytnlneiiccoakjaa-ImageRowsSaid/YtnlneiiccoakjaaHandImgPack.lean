/-
image.Pack, walked by hand.
Conditions: none.
-/
import Derived.Test.YtnlneiiccoakjaaImgApp
import Derived.Test.YtnlneiiccoakjaaMark
namespace Go.Proofs.Ytnlneiiccoakjaa.P
open Go.RowKit Go.Proofs.YtnlneiiccoakjaaW.PrintWords Go.Proofs.YtnlneiiccoakjaaW.PrintLast Go.Proofs.YtnlneiiccoakjaaW.PrintMore
attribute [local go_sem] max2_int min2_int max_two min_two max_three min_three max_four min_four
set_option linter.unusedVariables false
set_option linter.unusedSimpArgs false
open Go.Proofs.Ytnlneiiccoakjaa.Num
def rowBytes (r : S41) : List Int := [r.f0 % 256] ++ putV (IntKind.u64.wrap r.f1) 2 ++ r.f2
def packHead (b : List Int) : List Int := markL ++ putV (IntKind.u64.wrap ((b.length / 256 : Nat) : Int)) 2
def packBody (b : List Int) (l : List S41) : List Int := packHead b ++ (l.map rowBytes).flatten
def packP (b : List Int) : List Int × Int := if diskB b = true then (packBody b (rowsP b).1 ++ putV (Crc.sum (packBody b (rowsP b).1)) 4, 0) else ([], 1)
def image_Pack.f (l0 : List Int) : Option (List Int × Int) := if bytesB l0 = true then some (packP l0) else none
theorem wp_append_bytes {w : World} {ops : Array Oper} {rest : List Oper} {o : Oper} {a : Act} {Q : Exit → Act → World → Prop} (hgd : o.guard = none) (s x : Operand) (ho : o.op = .call { callee := .builtin .append, args := #[s, x], argTypes := #[22, 22] }) (ht : o.type = 22)
    {base : Nat} {v : Value} {xs ys : List Int} {A : Option Addr} {m c : Nat} (hs : a.eval s = v) (hx : a.eval x = .slice A m c) (hm : ys.length = m) (HO : w.ownsRow base 5 1 v xs.length (nums .u8 xs)) (HR : (Kd.int .u8).C w A ys.length ys) (hb : base ≤ w.heap.size) (hl : xs.length + ys.length ≤ 140737488355328)
    (h : ∀ v1 w1, w1.ownsRow base 5 1 v1 (xs ++ ys).length (nums .u8 (xs ++ ys)) → w.grownBy w1 v.ownBlock → wpList Try.prog ops Q rest (a.put o.dst v1) w1) : wpList Try.prog ops Q (o :: rest) a w := by
  refine wpList_plain hgd fun K hK => ?_
  subst hm
  obtain ⟨v1, w1, hr, h2, h3, _⟩ := append_bytes_run HO HR hb hl
  unfold Oper.wp
  rw [append_exec8 ho hs hx ht hr]
  exact hK _ _ (h v1 w1 h2 h3)
theorem own_C {w : World} {base : Nat} {u : Value} {p : List Int} (h : w.ownsRow base 5 1 u p.length (nums .u8 p)) : ∃ A c, u = .slice A p.length c ∧ p.length ≤ c ∧ (Kd.int .u8).C w A p.length p :=
  Kd.R_reads (Kd.R_of_own (h1 := fun _ => rfl) (enc := Value.int .u8) (ok := fun _ => True) h (fun _ _ => trivial))
theorem rowBytes_snoc {l : List S41} {i : Nat} (h : i < l.length) (p : List Int) : p ++ ((l.take (i + 1)).map rowBytes).flatten = p ++ ((l.take i).map rowBytes).flatten ++ [l[i].f0 % 256] ++ putV (IntKind.u64.wrap l[i].f1) 2 ++ l[i].f2 := by
  rw [List.take_succ_eq_append_getElem h, List.map_append, List.flatten_append]
  simp [rowBytes]
def image_Pack.T8 : Bool × List (List Nat × List Nat) := (true, [([], []), ([], []), ([1], [1]), ([2], [2]), ([3], [3]), ([0, 4], [0, 4]), ([], []), ([6], [6]), ([7, 5], [7]), ([5, 8, 8], [5, 8]), ([], []), ([10], [10]), ([9, 11, 9], [9, 11]), ([12, 12, 0, 1, 2, 3, 4, 5, 6, 7, 8, 9, 10, 11, 12], [0, 12])])
def image_Pack.B8 : List Nat := [0, 0, 2, 6, 14, 31, 0, 64, 255, 511, 0, 1024, 4095, 8191]
theorem image_Pack.tab8 : rtab .any (opsOf Try.f18 8) = image_Pack.T8 := by kernel_rfl
theorem image_Pack.bits8 : waitsOk image_Pack.T8.2 image_Pack.B8 = true := by kernel_rfl
def image_Pack.T11 : Bool × List (List Nat × List Nat) := (true, [([], []), ([], []), ([1], [1]), ([2], [2]), ([0, 3, 2], [0, 3])])
def image_Pack.B11 : List Nat := [0, 0, 2, 6, 15]
theorem image_Pack.tab11 : rtab .any (opsOf Try.f18 11) = image_Pack.T11 := by kernel_rfl
theorem image_Pack.bits11 : waitsOk image_Pack.T11.2 image_Pack.B11 = true := by kernel_rfl
set_option maxHeartbeats 16000000 in
set_option maxRecDepth 100000 in
theorem image_Pack.calls (A0 : Option Addr) (c0 : Nat) (l0 : List Int) (r1 : List Int) (r2 : Int) (w : World) (hr0 : Kd.C (Kd.int .u8) w A0 l0.length l0) (hc0 : l0.length ≤ c0) (h : image_Pack.f l0 = some (r1, r2)) :
    Calls Try.prog 18 #[.slice A0 l0.length c0] w fun e w' => ∃ v0_ : Value, e = .returned (.tuple #[v0_, .int .i64 r2]) ∧ Kd.R (Kd.int .u8) 5 w' w.heap.size (fun _ => True) v0_ r1 ∧ Below w.heap.size w w' := by
  unfold image_Pack.f at h
  split at h
  case isFalse => exact absurd h (by simp)
  rename_i hbb
  have hbytes := bytesB_iff.mp hbb
  have h := Option.some.inj h
  unfold packP at h
  have HB := Aside0.mk (Below.refl w.heap.size w)
  obtain ⟨n, hn⟩ : ∃ n, n = l0.length := ⟨_, rfl⟩
  by_cases hd : diskB l0 = true
  case neg =>
    rw [if_neg hd] at h
    injection h with e1 e2
    subst e1
    subst e2
    have cR : Aside0 (∀ w' : World, Below w.heap.size w w' → Calls Try.prog 9 #[.slice A0 n c0] w' fun e w'' => ∃ v0_ : Value, e = .returned (.tuple #[v0_, .int .i64 1]) ∧ Kd.R k41 41 w'' w'.heap.size (fun _ => True) v0_ [] ∧ Below w'.heap.size w' w'') := ⟨fun w' hb => by
      rw [hn]
      exact image_Rows.calls A0 c0 l0 [] 1 w' (Kd.C_below hr0 hb) hc0 (by unfold image_Rows.f rowsP; rw [if_pos hbb, if_neg hd])⟩
    rw [← hn]
    clear hr0 hbb hbytes hd hn hc0
    go_enter Try.func18, Try.ntmps18
    go_wp2_with (first
      | (go_at_call 9; go_loud ((with_reducible refine (cR.out _ HB.out).mono ?_); rintro e w_ ⟨v0, rfl, hR, hb⟩; replace HB := Aside0.mk (below_step HB.out hb); clear hb; clear hR)))
    go_ret2
    exact ⟨_, rfl, Kd.R_nil _ _ _ _ _, HB.out⟩
  rw [if_pos hd] at h
  have hd' : l0.length ≠ 0 ∧ l0.length % 256 = 0 ∧ l0.length ≤ 1048576 := of_decide_eq_true hd
  obtain ⟨Lr, hLr⟩ : ∃ Lr, Lr = (rowsP l0).1 := ⟨_, rfl⟩
  have hLe : Lr = rowsN l0 (l0.length / 256) := by rw [hLr]; unfold rowsP; rw [if_pos hd]
  have hok := rowsN_ok l0 (l0.length / 256)
  rw [← hLe] at hok
  have cR : Aside0 (∀ w' : World, Below w.heap.size w w' → Calls Try.prog 9 #[.slice A0 n c0] w' fun e w'' => ∃ v0_ : Value, e = .returned (.tuple #[v0_, .int .i64 0]) ∧ Kd.R k41 41 w'' w'.heap.size (fun _ => True) v0_ Lr ∧ Below w'.heap.size w' w'') := ⟨fun w' hb => by
    rw [hn]
    exact image_Rows.calls A0 c0 l0 Lr 0 w' (Kd.C_below hr0 hb) hc0 (by unfold image_Rows.f rowsP; rw [if_pos hbb, if_pos hd, hLe])⟩
  rw [← hLr] at h
  have HLO : Aside0 (Lr.length ≤ 4096 ∧ ∀ y ∈ Lr, y.f2.length ≤ 1048576) := ⟨by have := hok.1; omega, fun y hy => by have := (hok.2 y hy).2.2; omega⟩
  have HH : Aside0 (packBody l0 Lr ++ putV (Crc.sum (packBody l0 Lr)) 4 = r1 ∧ (0 : Int) = r2) := ⟨by injection h with e1 e2; exact ⟨e1, e2⟩⟩
  have HNN : Aside0 (n = l0.length ∧ n ≤ 1048576) := ⟨by omega⟩
  rw [← hn]
  clear hr0 hbb hbytes hd hd' hn hc0 h hok hLe hLr
  obtain ⟨qn, hqn⟩ : ∃ qn, qn = n / 256 := ⟨_, rfl⟩
  have hq0 : ((n : Int)).tdiv 256 = (qn : Int) := by rw [Int.tdiv_eq_ediv_of_nonneg (by omega)]; omega
  have hq1 : (n : Int) / 256 = (qn : Int) := by omega
  have HQ : Aside0 (qn = l0.length / 256 ∧ qn ≤ 4096) := ⟨by have := HNN.out; rw [hqn, this.1], by have := HNN.out; omega⟩
  have HQW : Aside0 (wrap64 (qn : Int) = (qn : Int)) := ⟨w64 (by omega) (by have := HQ.out; omega)⟩
  clear hqn
  go_enter Try.func18, Try.ntmps18
  have hqw := HQW.out
  go_upto_region 5 with (first
    | (go_at_call 9; go_loud ((with_reducible refine (cR.out _ HB.out).mono ?_); rintro e w1 ⟨v0, rfl, hR, hb⟩; have HW0 := Aside0.mk (below_step HB.out hb); obtain ⟨Al, cl, el, hlc, hC⟩ := Kd.R_reads hR; subst el; have HCL := Aside0.mk hC; clear HB hb hR hlc hC; have HB := Aside0.mk (Below.refl w1.heap.size w1)))
    | ((with_reducible refine gate_dst (N := 18) rfl ?_); go_loud (refine TM.R_lit (Kd.int .u8) 22 5 ?hg ?hg2 (N := 18) (N2 := 19) ?hd ?hd2 ?ho2 Try.underlying22 Try.underlying5 (xs := markL) (inner := [.int .u8 76, .int .u8 73, .int .u8 77, .int .u8 71]) (ok := fun _ => True) rfl ?hr ?hev trivial ?_; (case hd => rfl); (case hd2 => rfl); (case hg => rfl); (case hg2 => rfl); (case ho2 => rfl); (case hev => intro v_; rfl); (case hr => first | (go_simp; done) | (go_simp; rfl)); intro vm w_ ho hb; have HMK := Aside0.mk (TM.R_lower ho HB.out.size); replace HB := Aside0.mk (below_step HB.out hb); clear ho hb))
    | (go_at_call 31; go_loud ((with_reducible refine (short_any (qn : Int) _).mono ?_); rintro e w_ ⟨gs, rfl, _, hk, hb⟩; have hsk := blk_reads hk (by rw [putV_length]; decide); rw [putV_length] at hsk; have HSK := Aside0.mk hsk; replace HMK := Aside0.mk (TM.R_below HMK.out hb); replace HB := Aside0.mk (below_step HB.out hb); clear hk hb hsk))
    | ((with_reducible refine gate_builtin (b := .append) (xs := #[.tmp 19, .tmp 23]) rfl ?_); at_builtin; go_loud (refine TM.R_append_rows (Kd.int .u8) (w0 := w1) w1.heap.size rfl (.tmp 19) (.tmp 23) 22 5 (.int .u8 0) 1 rfl Try.underlying22 info5 rfl (by decide) (by decide) vm markL (putV (IntKind.u64.wrap (qn : Int)) 2) (some ⟨gs, 0, none⟩) 2 2 (fun _ => True) (fun _ => False) rfl rfl HMK.out HSK.out (fun _ _ _ => trivial) (fun _ hk => hk.elim) (fun _ _ => trivial) HB.out HB.out.size (by decide) (by rw [putV_length]; decide) rfl ?_; intro u0 w_ ho hb2 _ _; clear HB HMK HSK; have HB := Aside0.mk hb2; have HO := Aside0.mk (Kd.own_of_R ho); clear ho hb2)))
  have HO0 : Aside0 (w_.ownsRow w1.heap.size 5 1 u0 (packHead l0).length (nums .u8 (packHead l0))) := ⟨by unfold packHead; rw [← HQ.out.1]; exact HO.out⟩
  have HPH : Aside0 ((packHead l0).length = 6) := ⟨by unfold packHead; rw [List.length_append, putV_length]; rfl⟩
  clear HO hq0 hq1 hqw
  obtain ⟨nl, hnl⟩ : ∃ nl, nl = Lr.length := ⟨_, rfl⟩
  have HNL : Aside0 (nl = Lr.length ∧ nl ≤ 4096) := ⟨hnl, by rw [hnl]; exact HLO.out.1⟩
  rw [← hnl]
  clear hnl
  go_wp2
  go_loopw [6, 27] (fun v6 v27 wr => ∃ (i : Nat) (p : List Int) (u : Value), i ≤ nl ∧ v6 = u ∧ v27 = .int .i64 i ∧ Aside0 (p = packHead l0 ++ ((Lr.take i).map rowBytes).flatten ∧ p.length ≤ 6 + 1048579 * i) ∧ Aside0 (wr.ownsRow w1.heap.size 5 1 u p.length (nums .u8 p)) ∧ Aside0 (Below w1.heap.size w1 wr)) (fun _ v27 _ => nl - (intOf v27).toNat)
  case atStart => exact ⟨0, packHead l0, u0, by omega, rfl, rfl, ⟨by simp, by rw [HPH.out]; decide⟩, HO0, HB⟩
  case round =>
    clear HO0 HB
    obtain ⟨i, p, u, hi, hu, rfl, HP, HOr, HW1⟩ := hrel
    have hu' := hu.symm
    clear hu
    subst hu'
    have hnb : nl ≤ 4096 := HNL.out.2
    by_cases hin : i < nl
    · have hil : i < Lr.length := by have := HNL.out; omega
      obtain ⟨ax, Ax, cx, eA, hx0, hx1, hx2, hxc, hxr⟩ := row_at HCL.out i hil
      subst eA
      replace hx0 := cell_under hx0 HW1.out
      replace hx1 := cell_under hx1 HW1.out
      replace hx2 := cell_under hx2 HW1.out
      obtain ⟨k1, hk1⟩ : ∃ k, k = Lr[i].f0 := ⟨_, rfl⟩
      obtain ⟨n1, hn1⟩ : ∃ k, k = Lr[i].f1 := ⟨_, rfl⟩
      obtain ⟨f2, hf2⟩ : ∃ k, k = Lr[i].f2 := ⟨_, rfl⟩
      have hfl : f2.length ≤ 1048576 := by rw [hf2]; exact HLO.out.2 _ (List.getElem_mem hil)
      have HSN : Aside0 (packHead l0 ++ ((Lr.take (i + 1)).map rowBytes).flatten = p ++ [k1 % 256] ++ putV (IntKind.u64.wrap n1) 2 ++ f2) := ⟨by rw [rowBytes_snoc hil, hk1, hn1, hf2, ← HP.out.1]⟩
      rw [← hk1] at hx0
      rw [← hn1] at hx1
      rw [← hf2] at hx2 hxc hxr
      have HXR := Aside0.mk hxr
      obtain ⟨nx, hnx⟩ : ∃ nx, f2.length = nx := ⟨_, rfl⟩
      have HNX := Aside0.mk hnx
      rw [hnx] at hx2
      obtain ⟨kb, hkb⟩ : ∃ kb, k1 % 256 = kb := ⟨_, rfl⟩
      have HKB : Aside0 (k1 % 256 = kb ∧ IntKind.u8.wrap k1 = kb) := ⟨hkb, by rw [u8_mod]; exact hkb⟩
      have HPL : Aside0 ((p.length + [kb].length ≤ 140737488355328) ∧ ((p ++ [kb]).length + (putV (IntKind.u64.wrap n1) 2).length ≤ 140737488355328) ∧ ((p ++ [kb] ++ putV (IntKind.u64.wrap n1) 2).length + f2.length ≤ 140737488355328) ∧ (p ++ [kb] ++ putV (IntKind.u64.wrap n1) 2 ++ f2).length ≤ 6 + 1048579 * (i + 1)) := ⟨by
        have := HP.out.2
        simp only [List.length_append, putV_length, List.length_singleton]
        omega⟩
      clear hk1 hn1 hf2 hxc hxr hnx hfl hil hkb
      have HB := Aside0.mk (Below.refl wr.heap.size wr)
      go_wp2_with (first
        | ((with_reducible refine gate_dst (N := 8) rfl ?_); go_loud (refine box_event ?hg (N := 8) ?hd (cs := #[.int .i64 0, .int .i64 0, .slice none 0 0]) (t := 41) ?hr ?_; (case hd => rfl); (case hg => rfl); (case hr => first | kernel_rfl | (go_simp; done) | (go_simp; rfl)); intro ga hg w_ hx hb; have GE_HX := Aside0.mk (show wr.heap.size ≤ ga by rw [hg]; exact HB.out.size); clear hg; replace HB := Aside0.mk (below_step HB.out hb); clear hb; have HX : Aside0 (w_.heap[ga]? = some (.cells #[.int .i64 0, .int .i64 0, .slice none 0 0] 41 (0, 0))) := ⟨hx⟩; clear hx; have cHX_0 := (blk_cell HX.out 0).trans (show _ = some (Value.int .i64 0) from rfl); have cHX_1 := (blk_cell HX.out 1).trans (show _ = some (Value.int .i64 0) from rfl); have cHX_2 := (blk_cell HX.out 2).trans (show _ = some (Value.slice none 0 0) from rfl)))
        | ((refine gate_store (t := 41) (p := 8) rfl ?_); go_loud (refine store_whole ?hgd ?hN (p := 8) (v := .tmp 30) ?ho ga (k1) (n1) (.slice Ax nx cx) rfl ?hx ?hy _ _ _ _ HX.out wr.heap.size wr HB.out GE_HX.out ?_; (case hgd => rfl); (case hN => rfl); (case ho => rfl); (case hx => rfl); (case hy => rfl); intro w_ hx_ ho_ hb_; clear cHX_0 cHX_1 cHX_2; clear HB; have HB := Aside0.mk hb_; clear hb_ HX; have HX : Aside0 (w_.heap[ga]? = some (.cells #[.int .i64 k1, .int .i64 n1, .slice Ax nx cx] 41 (0, 0))) := ⟨hx_⟩; clear hx_ ho_; have cHX_0 := (blk_cell HX.out 0).trans (show _ = some (Value.int .i64 k1) from rfl); have cHX_1 := (blk_cell HX.out 1).trans (show _ = some (Value.int .i64 n1) from rfl); have cHX_2 := (blk_cell HX.out 2).trans (show _ = some (Value.slice Ax nx cx) from rfl))))
      have HO : Aside0 (OwnB w1.heap.size ga u p w_) := ⟨pw_own_below HOr.out HB.out, fun e => by have h1 := own_lt HOr.out ga e.symm; have h2 := GE_HX.out; omega, blk_lt HX.out⟩
      clear cHX_0 cHX_1 cHX_2
      refine QN.q_start (n := 14) (S := fun (x : (World → Prop) × Value) w_ => Below w1.heap.size w1 w_ ∧ w_.heap[ga]? = some (.cells #[.int .i64 k1, .int .i64 n1, .slice Ax nx cx] 41 (0, 0)) ∧ x.1 w_) (ds := []) (fun W => OwnB w1.heap.size ga u p W, undef) #[false, false, false, false, false, false, false, false, false, false, false, false, false, false] (by kernel_rfl) rfl rfl ⟨below_drew (below_step HW1.out HB.out), blk_drew HX.out, OwnB.below HO.out (below_drew (Below.refl _ _))⟩ ?_
      clear HB HX HO
      refine QN.q_tab image_Pack.tab8 image_Pack.bits8 (fun HT_ HW_ => ?_)
      refine QN.q_take (i := 0) (N := some 31) (v := ?_) (a' := ?_) #[true, false, false, false, false, false, false, false, false, false, false, false, false, false] rfl rfl (take_ofW HT_.out HW_.out (by kernel_rfl)) (by decide) (QN.quiet_val (by rfl) ?_) ?_ ?_
      rotate_left
      · intro x w_ _
        go_simp
        with_reducible rfl
      rotate_left
      · simp only [Act.put, List.setIfInBounds_toArray, List.set_cons_zero, List.set_cons_succ, i64_w, i32_w, List.getElem_toArray, List.getElem_cons_succ, List.getElem_cons_zero]
        rfl
      refine QN.q_take (i := 1) (N := some 32) (v := ?_) (a' := ?_) #[true, true, false, false, false, false, false, false, false, false, false, false, false, false] rfl rfl (take_ofW HT_.out HW_.out (by kernel_rfl)) (by decide) (QN.quiet_val (by rfl) ?_) ?_ ?_
      rotate_left
      · intro x w_ _
        go_simp
        with_reducible rfl
      rotate_left
      · simp only [Act.put, List.setIfInBounds_toArray, List.set_cons_zero, List.set_cons_succ, i64_w, i32_w, List.getElem_toArray, List.getElem_cons_succ, List.getElem_cons_zero]
        rfl
      refine QN.q_take (i := 2) (N := some 33) (v := ?_) (a' := ?_) #[true, true, true, false, false, false, false, false, false, false, false, false, false, false] rfl rfl (take_ofW HT_.out HW_.out (by kernel_rfl)) (by decide) (QN.quiet_val (by rfl) ?_) ?_ ?_
      rotate_left
      · rintro x w_ ⟨hB, hX, hS⟩
        have c0_ := (blk_cell hX 0).trans (show _ = some (Value.int .i64 k1) from rfl)
        go_simp
        with_reducible rfl
      rotate_left
      · simp only [Act.put, List.setIfInBounds_toArray, List.set_cons_zero, List.set_cons_succ, i64_w, i32_w, List.getElem_toArray, List.getElem_cons_succ, List.getElem_cons_zero]
        rfl
      refine QN.q_take (i := 3) (N := some 34) (v := .int .u8 kb) (a' := ?_) #[true, true, true, true, false, false, false, false, false, false, false, false, false, false] rfl rfl (take_ofW HT_.out HW_.out (by kernel_rfl)) (by decide) (QN.quiet_val (by rfl) ?_) ?_ ?_
      · intro x w_ _
        have h_ := HKB.out
        go_simp
        try rfl
      rotate_left
      · simp only [Act.put, List.setIfInBounds_toArray, List.set_cons_zero, List.set_cons_succ, i64_w, i32_w, List.getElem_toArray, List.getElem_cons_succ, List.getElem_cons_zero]
        rfl
      refine QN.q_take (i := 6) (N := some 37) (v := ?_) (a' := ?_) #[true, true, true, true, false, false, true, false, false, false, false, false, false, false] rfl rfl (take_ofW HT_.out HW_.out (by kernel_rfl)) (by decide) (QN.quiet_val (by rfl) ?_) ?_ ?_
      rotate_left
      · intro x w_ _
        go_simp
        with_reducible rfl
      rotate_left
      · simp only [Act.put, List.setIfInBounds_toArray, List.set_cons_zero, List.set_cons_succ, i64_w, i32_w, List.getElem_toArray, List.getElem_cons_succ, List.getElem_cons_zero]
        rfl
      refine QN.q_take (i := 7) (N := some 38) (v := ?_) (a' := ?_) #[true, true, true, true, false, false, true, true, false, false, false, false, false, false] rfl rfl (take_ofW HT_.out HW_.out (by kernel_rfl)) (by decide) (QN.quiet_val (by rfl) ?_) ?_ ?_
      rotate_left
      · rintro x w_ ⟨hB, hX, hS⟩
        have c1_ := (blk_cell hX 1).trans (show _ = some (Value.int .i64 n1) from rfl)
        go_simp
        with_reducible rfl
      rotate_left
      · simp only [Act.put, List.setIfInBounds_toArray, List.set_cons_zero, List.set_cons_succ, i64_w, i32_w, List.getElem_toArray, List.getElem_cons_succ, List.getElem_cons_zero]
        rfl
      refine QN.q_take (i := 10) (N := some 41) (v := ?_) (a' := ?_) #[true, true, true, true, false, false, true, true, false, false, true, false, false, false] rfl rfl (take_ofW HT_.out HW_.out (by kernel_rfl)) (by decide) (QN.quiet_val (by rfl) ?_) ?_ ?_
      rotate_left
      · intro x w_ _
        go_simp
        with_reducible rfl
      rotate_left
      · simp only [Act.put, List.setIfInBounds_toArray, List.set_cons_zero, List.set_cons_succ, i64_w, i32_w, List.getElem_toArray, List.getElem_cons_succ, List.getElem_cons_zero]
        rfl
      refine QN.q_take (i := 11) (N := some 42) (v := ?_) (a' := ?_) #[true, true, true, true, false, false, true, true, false, false, true, true, false, false] rfl rfl (take_ofW HT_.out HW_.out (by kernel_rfl)) (by decide) (QN.quiet_val (by rfl) ?_) ?_ ?_
      rotate_left
      · rintro x w_ ⟨hB, hX, hS⟩
        have c2_ := (blk_cell hX 2).trans (show _ = some (Value.slice Ax nx cx) from rfl)
        go_simp
        with_reducible rfl
      rotate_left
      · simp only [Act.put, List.setIfInBounds_toArray, List.set_cons_zero, List.set_cons_succ, i64_w, i32_w, List.getElem_toArray, List.getElem_cons_succ, List.getElem_cons_zero]
        rfl
      refine QN.q_new (i := 4) (N := some 35) (f := Prod.snd) (Nw := fun y => ∃ g1 : Nat, y = (fun W => OwnB w1.heap.size ga u p W ∧ W.heap[g1]? = some (.cells #[.int .u8 kb] 5 (0, 0)) ∧ some g1 ≠ u.ownBlock, .slice (some ⟨g1, 0, none⟩) 1 1)) #[true, true, true, true, true, false, true, true, false, false, true, true, false, false] rfl rfl (one_of HT_.out (by kernel_rfl)) (by decide) (QN.new_val (by rfl) ?_) ?_
      · rintro w_ ⟨hB, hX, hO⟩
        refine ⟨(fun W => OwnB w1.heap.size ga u p W ∧ W.heap[w_.heap.size]? = some (.cells #[.int .u8 kb] 5 (0, 0)) ∧ some w_.heap.size ≠ u.ownBlock, .slice (some ⟨w_.heap.size, 0, none⟩) 1 1), w_.alloc (.cells #[.int .u8 kb] 5 (0, 0)), ?_, ⟨_, rfl⟩, below_alloc hB _, blk_alloc hX _, OwnB.below hO (below_alloc (Below.refl _ _) _), blk_new _ _, fun e => Nat.lt_irrefl _ (own_lt hO.1 _ e.symm)⟩
        go_simp
        try rfl
      rintro _ ⟨g1, rfl⟩
      refine QN.norm_q (a' := ?_) ?_ ?_
      rotate_left
      · show Act.put _ (some 35) (.slice (some ⟨g1, 0, none⟩) 1 1) = _
        simp only [Act.put, List.setIfInBounds_toArray, List.set_cons_zero, List.set_cons_succ, i64_w, i32_w]
        rfl
      refine QN.q_new (i := 5) (N := some 36) (f := Prod.snd) (Nw := fun y => ∃ v1 : Value, y = (fun W => OwnB w1.heap.size ga v1 (p ++ [kb]) W, v1)) #[true, true, true, true, true, true, true, true, false, false, true, true, false, false] rfl rfl (one_of HT_.out (by kernel_rfl)) (by decide) (QN.new_val (by rfl) ?_) ?_
      · rintro w_ ⟨hB, hX, hO, hK, _⟩
        obtain ⟨v1, w2, hr, hO2, hg, hga⟩ := hO.app (blk_reads (l := [kb]) hK (by simp)) hB.size HPL.out.1
        exact ⟨(fun W => OwnB w1.heap.size ga v1 (p ++ [kb]) W, v1), w2, append_exec8 rfl rfl rfl rfl hr, ⟨v1, rfl⟩, hB.grown hg hB.size (fun k hk => own_base hO.1 k hk), hga.trans hX, hO2⟩
      rintro _ ⟨v1, rfl⟩
      refine QN.norm_q (a' := ?_) ?_ ?_
      rotate_left
      · show Act.put _ (some 36) (v1) = _
        simp only [Act.put, List.setIfInBounds_toArray, List.set_cons_zero, List.set_cons_succ, i64_w, i32_w]
        rfl
      refine QN.q_new (i := 8) (N := some 39) (f := Prod.snd) (Nw := fun y => ∃ g2 : Nat, y = (fun W => OwnB w1.heap.size ga v1 (p ++ [kb]) W ∧ W.heap[g2]? = some (.cells (nums .u8 (putV (IntKind.u64.wrap n1) 2)).toArray 70 (0, 0)), .slice (some ⟨g2, 0, none⟩) 2 2)) #[true, true, true, true, true, true, true, true, true, false, true, true, false, false] rfl rfl (one_of HT_.out (by kernel_rfl)) (by decide) (QN.new_call Try.func31 (by kernel_rfl) rfl #[.int .i64 n1] (by rfl) rfl (by (try simp only [List.map_toArray, List.map_cons, List.map_nil]); first | done | rfl) ?_) ?_
      · rintro w_ ⟨hB, hX, hO⟩
        refine (short_any n1 w_).mono ?_
        rintro e w_2 ⟨g2, rfl, _, hK, hb⟩
        exact ⟨(fun W => OwnB w1.heap.size ga v1 (p ++ [kb]) W ∧ W.heap[g2]? = some (.cells (nums .u8 (putV (IntKind.u64.wrap n1) 2)).toArray 70 (0, 0)), .slice (some ⟨g2, 0, none⟩) 2 2), rfl, ⟨g2, rfl⟩, below_step hB hb, blk_below hX hb, OwnB.below hO hb, hK⟩
      rintro _ ⟨g2, rfl⟩
      refine QN.norm_q (a' := ?_) ?_ ?_
      rotate_left
      · show Act.put _ (some 39) (.slice (some ⟨g2, 0, none⟩) 2 2) = _
        simp only [Act.put, List.setIfInBounds_toArray, List.set_cons_zero, List.set_cons_succ, i64_w, i32_w]
        rfl
      refine QN.q_new (i := 9) (N := some 40) (f := Prod.snd) (Nw := fun y => ∃ v2 : Value, y = (fun W => OwnB w1.heap.size ga v2 (p ++ [kb] ++ putV (IntKind.u64.wrap n1) 2) W, v2)) #[true, true, true, true, true, true, true, true, true, true, true, true, false, false] rfl rfl (one_of HT_.out (by kernel_rfl)) (by decide) (QN.new_val (by rfl) ?_) ?_
      · rintro w_ ⟨hB, hX, hO, hK⟩
        obtain ⟨v2, w2, hr, hO2, hg, hga⟩ := hO.app (c := 2) (blk_reads hK (by rw [putV_length]; decide)) hB.size HPL.out.2.1
        rw [putV_length] at hr
        exact ⟨(fun W => OwnB w1.heap.size ga v2 (p ++ [kb] ++ putV (IntKind.u64.wrap n1) 2) W, v2), w2, append_exec8 rfl rfl rfl rfl hr, ⟨v2, rfl⟩, hB.grown hg hB.size (fun k hk => own_base hO.1 k hk), hga.trans hX, hO2⟩
      rintro _ ⟨v2, rfl⟩
      refine QN.norm_q (a' := ?_) ?_ ?_
      rotate_left
      · show Act.put _ (some 40) (v2) = _
        simp only [Act.put, List.setIfInBounds_toArray, List.set_cons_zero, List.set_cons_succ, i64_w, i32_w]
        rfl
      refine QN.q_new (i := 12) (N := some 43) (f := Prod.snd) (Nw := fun y => ∃ v3 : Value, y = (fun W => OwnB w1.heap.size ga v3 (p ++ [kb] ++ putV (IntKind.u64.wrap n1) 2 ++ f2) W, v3)) #[true, true, true, true, true, true, true, true, true, true, true, true, true, false] rfl rfl (one_of HT_.out (by kernel_rfl)) (by decide) (QN.new_val (by rfl) ?_) ?_
      · rintro w_ ⟨hB, hX, hO⟩
        obtain ⟨v3, w2, hr, hO2, hg, hga⟩ := hO.app (c := cx) (Kd.C_below HXR.out hB) hB.size HPL.out.2.2.1
        rw [HNX.out] at hr
        exact ⟨(fun W => OwnB w1.heap.size ga v3 (p ++ [kb] ++ putV (IntKind.u64.wrap n1) 2 ++ f2) W, v3), w2, append_exec8 rfl rfl rfl rfl hr, ⟨v3, rfl⟩, hB.grown hg hB.size (fun k hk => own_base hO.1 k hk), hga.trans hX, hO2⟩
      rintro _ ⟨v3, rfl⟩
      refine QN.norm_q (a' := ?_) ?_ ?_
      rotate_left
      · show Act.put _ (some 43) (v3) = _
        simp only [Act.put, List.setIfInBounds_toArray, List.set_cons_zero, List.set_cons_succ, i64_w, i32_w]
        rfl
      refine QN.q_take (i := 13) (N := some 6) (v := ?_) (a' := ?_) #[true, true, true, true, true, true, true, true, true, true, true, true, true, true] rfl rfl (take_ofW HT_.out HW_.out (by kernel_rfl)) (by decide) (QN.quiet_val (by rfl) ?_) ?_ ?_
      rotate_left
      · intro x w_ _
        go_simp
        with_reducible rfl
      rotate_left
      · simp only [Act.put, List.setIfInBounds_toArray, List.set_cons_zero, List.set_cons_succ, i64_w, i32_w, List.getElem_toArray, List.getElem_cons_succ, List.getElem_cons_zero]
        rfl
      refine QN.q_done (done_of HT_.out (by kernel_rfl)) ?_
      rintro w_ ⟨hB, hX, hO⟩
      have HB1 := Aside0.mk hB
      have HO1 := Aside0.mk hO.1
      clear hB hO hX
      go_wp2
      go_roundw
      case rel => exact ⟨i + 1, _, v3, by omega, rfl, by go_num, ⟨by rw [HSN.out, HKB.out.1], HPL.out.2.2.2⟩, HO1, HB1⟩
      case measure => simp [intOf]; omega
    · have HE : Aside0 (p = packBody l0 Lr) := ⟨by rw [HP.out.1, List.take_of_length_le (by have := HNL.out; omega)]; rfl⟩
      obtain ⟨Au, cu, eu, hcu, _⟩ := own_C HOr.out
      subst eu
      obtain ⟨np, hnp⟩ : ∃ np, np = p.length := ⟨_, rfl⟩
      have hpl : p.length ≤ 6 + 1048579 * 4096 := by have := HP.out.2; omega
      have HNP : Aside0 (np = p.length ∧ p.length ≤ 6 + 1048579 * 4096) := ⟨hnp, hpl⟩
      have HO2 : Aside0 (wr.ownsRow w1.heap.size 5 1 (.slice Au np cu) p.length (nums .u8 p)) := ⟨by rw [hnp]; exact HOr.out⟩
      obtain ⟨sm, hsm⟩ : ∃ sm, sm = Crc.sum p := ⟨_, rfl⟩
      have hsr := Crc.sum_range p
      rw [← hsm] at hsr
      have HSW : Aside0 (IntKind.u64.wrap sm = sm) := ⟨u64_wrap hsr.1 (by omega)⟩
      have HSM : Aside0 (sm = Crc.sum p) := ⟨hsm⟩
      have cS : Aside0 (∀ w' : World, w'.ownsRow w1.heap.size 5 1 (.slice Au np cu) p.length (nums .u8 p) → Calls Try.prog 33 #[.slice Au np cu] w' fun e w'' => e = .returned (.int .u32 sm) ∧ Below w'.heap.size w' w'') := ⟨fun w' ho => by
        obtain ⟨A', c', e', hc', hC'⟩ := own_C ho
        rw [hnp] at e' ⊢
        injection e' with e1 e2 e3
        subst e1
        subst e3
        exact num_Sum.calls Au cu p sm w' hC' hc' (by rw [Sum_eq _ (by omega), hsm])⟩
      rw [← hnp]
      clear hnp hpl hsm hsr hcu HOr
      have HB := HW1
      have HO := HO2
      clear HW1 HO2
      go_wp2_with (first
        | ((with_reducible refine gate_dst (N := 9) rfl ?_); go_loud (refine box_event ?hg (N := 9) ?hd (cs := #[.int .u8 0, .int .u8 0, .int .u8 0, .int .u8 0]) (t := 61) ?hr ?_; (case hd => rfl); (case hg => rfl); (case hr => first | kernel_rfl | (go_simp; done) | (go_simp; rfl)); intro g9 hg w_ hx hb; have GE9 := Aside0.mk (show w1.heap.size ≤ g9 by rw [hg]; exact HB.out.size); have HU9 : Aside0 (∀ k, (Value.slice Au np cu).ownBlock = some k → k < g9) := ⟨fun k hk => by rw [hg]; exact own_lt HO.out k hk⟩; replace HO := Aside0.mk (pw_own_below HO.out hb); replace HB := Aside0.mk (below_step HB.out hb); have HX : Aside0 (w_.heap[g9]? = some (.cells (nums .u8 (List.replicate 4 0)).toArray 61 (0, 0))) := ⟨hx⟩; clear hx hb hg)))
      refine QN.q_start (n := 5) (S := fun (x : Bool) w_ => Below w1.heap.size w1 w_ ∧ w_.ownsRow w1.heap.size 5 1 (.slice Au np cu) p.length (nums .u8 p) ∧ w_.heap[g9]? = some (.cells (nums .u8 (bif x then putV sm 4 else List.replicate 4 0)).toArray 61 (0, 0))) (ds := []) false #[false, false, false, false, false] (by kernel_rfl) rfl rfl ⟨below_drew HB.out, pw_own_below HO.out (below_drew (Below.refl _ _)), blk_drew HX.out⟩ ?_
      clear HB HX HO
      refine QN.q_tab image_Pack.tab11 image_Pack.bits11 (fun HT_ HW_ => ?_)
      refine QN.q_take (i := 0) (N := some 45) (v := ?_) (a' := ?_) #[true, false, false, false, false] rfl rfl (take_ofW HT_.out HW_.out (by kernel_rfl)) (by decide) (QN.quiet_val (by rfl) ?_) ?_ ?_
      rotate_left
      · intro x w_ _
        go_simp
        with_reducible rfl
      rotate_left
      · simp only [Act.put, List.setIfInBounds_toArray, List.set_cons_zero, List.set_cons_succ, i64_w, i32_w, List.getElem_toArray, List.getElem_cons_succ, List.getElem_cons_zero]
        rfl
      refine QN.q_take (i := 1) (N := some 46) (v := ?_) (a' := ?_) #[true, true, false, false, false] rfl rfl (take_ofW HT_.out HW_.out (by kernel_rfl)) (by decide) (QN.quiet_val (by rfl) ?_) ?_ ?_
      rotate_left
      · intro x w_ _
        go_simp
        with_reducible rfl
      rotate_left
      · simp only [Act.put, List.setIfInBounds_toArray, List.set_cons_zero, List.set_cons_succ, i64_w, i32_w, List.getElem_toArray, List.getElem_cons_succ, List.getElem_cons_zero]
        rfl
      refine QN.q_take (i := 2) (N := some 47) (v := .int .u32 sm) (a' := ?_) #[true, true, true, false, false] rfl rfl (take_ofW HT_.out HW_.out (by kernel_rfl)) (by decide) (QN.quiet_call Try.func33 (by kernel_rfl) rfl #[.slice Au np cu] (by rfl) rfl (by (try simp only [List.map_toArray, List.map_cons, List.map_nil]); first | done | rfl) ?_) ?_ ?_
      · rintro x w_ ⟨hB, hO, hX⟩
        with_reducible refine (cS.out w_ hO).mono ?_
        rintro e w_2 ⟨rfl, hb⟩
        exact ⟨rfl, below_step hB hb, pw_own_below hO hb, blk_below hX hb⟩
      rotate_left
      · simp only [Act.put, List.setIfInBounds_toArray, List.set_cons_zero, List.set_cons_succ, i64_w, i32_w, List.getElem_toArray, List.getElem_cons_succ, List.getElem_cons_zero]
        rfl
      refine QN.q_take (i := 3) (N := some 48) (v := .int .u64 sm) (a' := ?_) #[true, true, true, true, false] rfl rfl (take_ofW HT_.out HW_.out (by kernel_rfl)) (by decide) (QN.quiet_val (by rfl) ?_) ?_ ?_
      · intro x w_ _
        have h1_ := HSW.out
        go_simp
      rotate_left
      · simp only [Act.put, List.setIfInBounds_toArray, List.set_cons_zero, List.set_cons_succ, i64_w, i32_w, List.getElem_toArray, List.getElem_cons_succ, List.getElem_cons_zero]
        rfl
      refine QN.q_new (i := 4) (N := some 49) (f := fun _ => .tuple #[]) (Nw := fun x => x = true) #[true, true, true, true, true] rfl rfl (one_of HT_.out (by kernel_rfl)) (by decide) (QN.new_call Try.func32 (by kernel_rfl) rfl #[.slice (some ⟨g9, 0, none⟩) 4 4, .int .u64 sm] (by rfl) rfl (by (try simp only [List.map_toArray, List.map_cons, List.map_nil]); first | done | rfl) ?_) ?_
      · rintro w_ ⟨hB, hO, hX⟩
        refine (put_cells g9 0 4 4 (nums .u8 (List.replicate 4 0)) _ sm w_ hX (by rw [nums_length, List.length_replicate]; decide) (by decide)).mono ?_
        rintro e w_2 ⟨rfl, hx, hb⟩
        refine ⟨true, rfl, rfl, below_weaken hB GE9.out hb, own_move hO (fun k hk => hb.block k (HU9.out k hk)), ?_⟩
        rw [splice_zeros 4 _ (putV_length _ _)] at hx
        exact hx
      rintro _ rfl
      refine QN.norm_q (a' := ?_) ?_ ?_
      rotate_left
      · show Act.put _ (some 49) (.tuple #[]) = _
        simp only [Act.put, List.setIfInBounds_toArray, List.set_cons_zero, List.set_cons_succ, i64_w, i32_w]
        rfl
      refine QN.q_done (done_of HT_.out (by kernel_rfl)) ?_
      rintro w_ ⟨hB, hO, hX⟩
      have HB := Aside0.mk hB
      have HO := Aside0.mk hO
      have HX : Aside0 (w_.heap[g9]? = some (.cells (nums .u8 (putV sm 4)).toArray 61 (0, 0))) := ⟨hX⟩
      clear hB hO hX
      go_wp2_with (first
        | ((with_reducible refine gate_builtin (b := .append) (xs := #[.tmp 50, .tmp 51]) rfl ?_); at_builtin; go_loud (refine wp_append_bytes rfl (.tmp 50) (.tmp 51) rfl rfl rfl rfl (putV_length _ _) HO.out (blk_reads HX.out (by rw [putV_length]; decide)) HB.out.size ?hl ?_; (case hl => rw [putV_length]; have := HNP.out; omega); intro v9 w_ ho hg; replace HB := Aside0.mk (HB.out.grown hg HB.out.size (fun k hk => own_base HO.out k hk)); have HV := Aside0.mk ho; clear HO HX ho hg)))
      go_ret2
      have he := HH.out
      obtain ⟨e1, e2⟩ := he
      subst e1
      subst e2
      refine ⟨v9, rfl, ?_, below_step HW0.out HB.out⟩
      rw [← HE.out, ← HSM.out]
      exact Kd.R_lower (Kd.R_of_own (h1 := fun _ => rfl) (enc := Value.int .u8) (ok := fun _ => True) HV.out (fun _ _ => trivial)) HW0.out.size
end Go.Proofs.Ytnlneiiccoakjaa.P
