/-
leveeref32.Pack, walked by hand: the same bytes as image.Pack's.
Conditions: none.
-/
import Derived.Test.YtnlneiiccoakjaaImgRefRows
import Derived.Test.YtnlneiiccoakjaaHandImgPack
import Derived.Test.YtnlneiiccoakjaaPx3
namespace Go.Proofs.Ytnlneiiccoakjaa.P
open Go.RowKit Go.Proofs.YtnlneiiccoakjaaW.PrintWords Go.Proofs.YtnlneiiccoakjaaW.PrintLast Go.Proofs.YtnlneiiccoakjaaW.PrintMore
attribute [local go_sem] max2_int min2_int max_two min_two max_three min_three max_four min_four
set_option linter.unusedVariables false
set_option linter.unusedSimpArgs false
open Go.Proofs.Ytnlneiiccoakjaa.Num Go.Proofs.Ytnlneiiccoakjaa.Plain
def leveeref32_Pack.f (l0 : List Int) : Option (List Int × Int) := if bytesB l0 = true then some (packP l0) else none
theorem bytesOf_str (l : List Int) (h : isBytes l) : bytesOf (strOfNums l) = l := by
  unfold bytesOf
  rw [strOfNums_data, List.map_map]
  conv => rhs; rw [← List.map_id l]
  apply List.map_congr_left
  intro x hx
  have := h x hx
  show (((UInt8.ofNat x.toNat).toNat : Nat) : Int) = x
  rw [UInt8.toNat_ofNat']
  omega
theorem stepR_f2 {l : List S41} {k : Int} {x : List Int} (hl : ∀ y ∈ l, isBytes y.f2) (hx : isBytes x) : ∀ y ∈ stepR l k x, isBytes y.f2 := by
  have hx' : isBytes (if k = 1 then x else []) := by
    split
    · exact hx
    · intro z hz; cases hz
  rcases snoc_cases l with h | ⟨xs, z, h⟩
  · subst h
    rw [stepR_nil]
    intro y hy
    rw [List.mem_singleton] at hy
    subst hy
    exact hx'
  · subst h
    rw [stepR_snoc]
    split
    · intro y hy
      rcases List.mem_append.mp hy with hy | hy
      · exact hl y (List.mem_append_left _ hy)
      · rw [List.mem_singleton] at hy
        subst hy
        intro v hv
        rcases List.mem_append.mp hv with hv | hv
        · exact hl z (by simp) v hv
        · exact hx' v hv
    · intro y hy
      rcases List.mem_append.mp hy with hy | hy
      · exact hl y hy
      · rw [List.mem_singleton] at hy
        subst hy
        exact hx'
theorem rowsN_f2 {b : List Int} (h : isBytes b) : ∀ i, ∀ y ∈ rowsN b i, isBytes y.f2
  | 0 => fun y hy => absurd hy (by simp [rowsN])
  | i + 1 => stepR_f2 (rowsN_f2 h i) (chunk_bytes h i)
theorem rowS_at {w : World} {A : Option Addr} {xs : List S41} (h : Kd.C k54 w A xs.length (xs.map strR)) (i : Nat) (hi : i < xs.length) : ∃ ad : Addr, A = some ad ∧ w.cell? (ad.add (i * 3)) = some (.int .i64 xs[i].f0) ∧ w.cell? ⟨(ad.add (i * 3)).block, (ad.add (i * 3)).off + 1, none⟩ = some (.int .i64 xs[i].f1) ∧
    w.cell? ⟨(ad.add (i * 3)).block, (ad.add (i * 3)).off + 2, none⟩ = some (.string (strOfNums xs[i].f2)) := by
  obtain ⟨ad, h1, h2, h3, h4⟩ := at_T54 h (i : Int) (by omega) (by omega)
  have e : rd_T54 (xs.map strR) (i : Int) = strR xs[i] := by simp [rd_T54, hi]
  rw [e] at h2 h3 h4
  rw [Int.toNat_natCast] at h2 h3 h4
  exact ⟨ad, h1, h2, h3, h4⟩
theorem bytes_any (n : Int) (m : Nat) (hm : m ≤ 8) (w : World) : Calls Try.prog 36 #[.int .u64 (IntKind.u64.wrap n), .int .i64 m] w fun e w' => ∃ A c, e = .returned (.slice A m c) ∧ (Kd.int .u8).C w' A m (putV (IntKind.u64.wrap n) m) ∧ Below w.heap.size w w' := by
  refine (leveeref01_Bytes.calls 20 (IntKind.u64.wrap n) m (putV (IntKind.u64.wrap n) m) w (Bytes_u 20 m n (by omega) (by omega))).mono ?_
  rintro e w' ⟨v, rfl, hR, hb⟩
  obtain ⟨A, c, el, hlc, hC⟩ := Kd.R_reads hR
  rw [putV_length] at el hC
  subst el
  exact ⟨A, c, rfl, hC, hb⟩
theorem bytes2_any (n : Int) (w : World) : Calls Try.prog 36 #[.int .u64 (IntKind.u64.wrap n), .int .i64 2] w fun e w' => ∃ A c, e = .returned (.slice A 2 c) ∧ (Kd.int .u8).C w' A 2 (putV (IntKind.u64.wrap n) 2) ∧ Below w.heap.size w w' := bytes_any n 2 (by decide) w
theorem bytes4_any (n : Int) (w : World) : Calls Try.prog 36 #[.int .u64 (IntKind.u64.wrap n), .int .i64 4] w fun e w' => ∃ A c, e = .returned (.slice A 4 c) ∧ (Kd.int .u8).C w' A 4 (putV (IntKind.u64.wrap n) 4) ∧ Below w.heap.size w w' := bytes_any n 4 (by decide) w
set_option maxHeartbeats 16000000 in
set_option maxRecDepth 100000 in
theorem leveeref32_Pack.calls (A0 : Option Addr) (c0 : Nat) (l0 : List Int) (r1 : List Int) (r2 : Int) (w : World) (hr0 : Kd.C (Kd.int .u8) w A0 l0.length l0) (hc0 : l0.length ≤ c0) (h : leveeref32_Pack.f l0 = some (r1, r2)) :
    Calls Try.prog 21 #[.slice A0 l0.length c0] w fun e w' => ∃ v0_ : Value, e = .returned (.tuple #[v0_, .int .i64 r2]) ∧ Kd.R (Kd.int .u8) 5 w' w.heap.size (fun _ => True) v0_ r1 ∧ Below w.heap.size w w' := by
  unfold leveeref32_Pack.f at h
  split at h
  case isFalse => exact absurd h (by simp)
  rename_i hbb
  have hbytes := bytesB_iff.mp hbb
  have h := Option.some.inj h
  unfold packP at h
  have HB := Aside0.mk (Below.refl w.heap.size w)
  obtain ⟨n, hn⟩ : ∃ n, n = l0.length := ⟨_, rfl⟩
  by_cases hd : diskB l0 = true
  case neg =>
    rw [if_neg hd] at h
    injection h with e1 e2
    subst e1
    subst e2
    have hs : leveeref32_Rows.f 12289 l0 = some ([], 1) := by
      rw [refRows_eq l0 hbytes hr0.2.1 12289 (Nat.le_refl _)]
      unfold refRowsP rowsP
      rw [if_neg hd]
      rfl
    have cR : Aside0 (∀ w' : World, Below w.heap.size w w' → Calls Try.prog 10 #[.slice A0 n c0] w' fun e w'' => ∃ v0_ : Value, e = .returned (.tuple #[v0_, .int .i64 1]) ∧ Kd.R k54 54 w'' w'.heap.size (fun _ => True) v0_ [] ∧ Below w'.heap.size w' w'') := ⟨fun w' hb => by
      rw [hn]
      exact leveeref32_Rows.calls 12289 A0 c0 l0 [] 1 w' (Kd.C_below hr0 hb) hc0 hs⟩
    rw [← hn]
    clear hr0 hbb hbytes hd hn hc0 hs
    go_enter Try.func21, Try.ntmps21
    go_wp2_with (first
      | (go_at_call 10; go_loud ((with_reducible refine (cR.out _ HB.out).mono ?_); rintro e w_ ⟨v0, rfl, hR, hb⟩; replace HB := Aside0.mk (below_step HB.out hb); clear hb; clear hR)))
    go_ret2
    exact ⟨_, rfl, Kd.R_nil _ _ _ _ _, HB.out⟩
  rw [if_pos hd] at h
  have hd' : l0.length ≠ 0 ∧ l0.length % 256 = 0 ∧ l0.length ≤ 1048576 := of_decide_eq_true hd
  obtain ⟨Lr, hLr⟩ : ∃ Lr, Lr = (rowsP l0).1 := ⟨_, rfl⟩
  have hLe : Lr = rowsN l0 (l0.length / 256) := by rw [hLr]; unfold rowsP; rw [if_pos hd]
  have hok := rowsN_ok l0 (l0.length / 256)
  have hf2 := rowsN_f2 hbytes (l0.length / 256)
  rw [← hLe] at hok hf2
  have cR : Aside0 (∀ w' : World, Below w.heap.size w w' → Calls Try.prog 10 #[.slice A0 n c0] w' fun e w'' => ∃ v0_ : Value, e = .returned (.tuple #[v0_, .int .i64 0]) ∧ Kd.R k54 54 w'' w'.heap.size (fun _ => True) v0_ (Lr.map strR) ∧ Below w'.heap.size w' w'') := ⟨fun w' hb => by
    rw [hn]
    exact leveeref32_Rows.calls 12289 A0 c0 l0 (Lr.map strR) 0 w' (Kd.C_below hr0 hb) hc0 (by
      rw [refRows_eq l0 hbytes (by omega) 12289 (Nat.le_refl _), hLe]
      unfold refRowsP rowsP
      rw [if_pos hd])⟩
  rw [← hLr] at h
  have HLO : Aside0 (Lr.length ≤ 4096 ∧ (∀ y ∈ Lr, y.f2.length ≤ 1048576) ∧ ∀ y ∈ Lr, isBytes y.f2) := ⟨by have := hok.1; omega, fun y hy => by have := (hok.2 y hy).2.2; omega, hf2⟩
  have HH : Aside0 (packBody l0 Lr ++ putV (Crc.sum (packBody l0 Lr)) 4 = r1 ∧ (0 : Int) = r2) := ⟨by injection h with e1 e2; exact ⟨e1, e2⟩⟩
  have HNN : Aside0 (n = l0.length ∧ n ≤ 1048576) := ⟨by omega⟩
  rw [← hn]
  clear hr0 hbb hbytes hd hd' hn hc0 h hok hf2 hLe hLr
  obtain ⟨qn, hqn⟩ : ∃ qn, qn = n / 256 := ⟨_, rfl⟩
  have hq0 : ((n : Int)).tdiv 256 = (qn : Int) := by rw [Int.tdiv_eq_ediv_of_nonneg (by omega)]; omega
  have hq1 : (n : Int) / 256 = (qn : Int) := by omega
  have HQ : Aside0 (qn = l0.length / 256 ∧ qn ≤ 4096) := ⟨by have := HNN.out; rw [hqn, this.1], by have := HNN.out; omega⟩
  have HQW : Aside0 (wrap64 (qn : Int) = (qn : Int)) := ⟨w64 (by omega) (by have := HQ.out; omega)⟩
  clear hqn
  go_enter Try.func21, Try.ntmps21
  have hqw := HQW.out
  go_upto_region 6 with (first
    | (go_at_call 10; go_loud ((with_reducible refine (cR.out _ HB.out).mono ?_); rintro e w1 ⟨v0, rfl, hR, hb⟩; have HW0 := Aside0.mk (below_step HB.out hb); obtain ⟨Al, cl, el, hlc, hC⟩ := Kd.R_reads hR; rw [List.length_map] at el hC; subst el; have HCL := Aside0.mk hC; clear HB hb hR hlc hC; have HB := Aside0.mk (Below.refl w1.heap.size w1)))
    | ((with_reducible refine gate_dst (N := 16) rfl ?_); go_loud (refine TM.R_lit (Kd.int .u8) 22 5 ?hg ?hg2 (N := 16) (N2 := 17) ?hd ?hd2 ?ho2 Try.underlying22 Try.underlying5 (xs := markL) (inner := [.int .u8 76, .int .u8 73, .int .u8 77, .int .u8 71]) (ok := fun _ => True) rfl ?hr ?hev trivial ?_; (case hd => rfl); (case hd2 => rfl); (case hg => rfl); (case hg2 => rfl); (case ho2 => rfl); (case hev => intro v_; rfl); (case hr => first | (go_simp; done) | (go_simp; rfl)); intro vm w_ ho hb; have HMK := Aside0.mk (TM.R_lower ho HB.out.size); replace HB := Aside0.mk (below_step HB.out hb); clear ho hb))
    | (go_at_call 36; go_loud ((with_reducible refine (bytes2_any (qn : Int) _).mono ?_); rintro e w_ ⟨Ab, cb, rfl, hk, hb⟩; have HSK := Aside0.mk hk; replace HMK := Aside0.mk (TM.R_below HMK.out hb); replace HB := Aside0.mk (below_step HB.out hb); clear hk hb))
    | ((with_reducible refine gate_builtin (b := .append) (xs := #[.tmp 18, .tmp 23]) rfl ?_); at_builtin; go_loud (refine TM.R_append_rows (Kd.int .u8) (w0 := w1) w1.heap.size rfl (.tmp 18) (.tmp 23) 22 5 (.int .u8 0) 1 rfl Try.underlying22 info5 rfl (by decide) (by decide) vm markL (putV (IntKind.u64.wrap (qn : Int)) 2) Ab 2 cb (fun _ => True) (fun _ => False) rfl rfl HMK.out HSK.out (fun _ _ _ => trivial) (fun _ hk => hk.elim) (fun _ _ => trivial) HB.out HB.out.size (by decide) (by rw [putV_length]; decide) rfl ?_; intro u0 w_ ho hb2 _ _; clear HB HMK HSK; have HB := Aside0.mk hb2; have HO := Aside0.mk ho; clear ho hb2)))
  have HO0 : Aside0 (Kd.R (Kd.int .u8) 5 w_ w1.heap.size (fun _ => True) u0 (packHead l0)) := ⟨by unfold packHead; rw [← HQ.out.1]; exact HO.out⟩
  have HPH : Aside0 ((packHead l0).length = 6) := ⟨by unfold packHead; rw [List.length_append, putV_length]; rfl⟩
  clear HO hq0 hq1 hqw
  obtain ⟨nl, hnl⟩ : ∃ nl, nl = Lr.length := ⟨_, rfl⟩
  have HNL : Aside0 (nl = Lr.length ∧ nl ≤ 4096) := ⟨hnl, by rw [hnl]; exact HLO.out.1⟩
  rw [← hnl]
  clear hnl
  go_wp2
  go_loopw [6, 7] (fun v6 v7 wr => ∃ (i : Nat) (p : List Int) (u : Value), i ≤ nl ∧ v6 = u ∧ v7 = .int .i64 i ∧ Aside0 (p = packHead l0 ++ ((Lr.take i).map rowBytes).flatten ∧ p.length ≤ 6 + 1048579 * i) ∧ Aside0 (Kd.R (Kd.int .u8) 5 wr w1.heap.size (fun _ => True) u p) ∧ Aside0 (Below w1.heap.size w1 wr)) (fun _ v7 _ => nl - (intOf v7).toNat)
  case atStart => exact ⟨0, packHead l0, u0, by omega, rfl, rfl, ⟨by simp, by rw [HPH.out]; decide⟩, HO0, HB⟩
  case round =>
    clear HO0 HB
    obtain ⟨i, p, u, hi, hu, rfl, HP, HO, HB⟩ := hrel
    have hu' := hu.symm
    clear hu
    subst hu'
    have hnb : nl ≤ 4096 := HNL.out.2
    by_cases hin : i < nl
    · have hil : i < Lr.length := by have := HNL.out; omega
      obtain ⟨ax, eA, hx0, hx1, hx2⟩ := rowS_at HCL.out i hil
      subst eA
      replace hx0 := cell_under hx0 HB.out
      obtain ⟨k1, hk1⟩ : ∃ k, k = Lr[i].f0 := ⟨_, rfl⟩
      obtain ⟨n1, hn1⟩ : ∃ k, k = Lr[i].f1 := ⟨_, rfl⟩
      obtain ⟨f2, hf2⟩ : ∃ k, k = Lr[i].f2 := ⟨_, rfl⟩
      have hfl : f2.length ≤ 1048576 := by rw [hf2]; exact HLO.out.2.1 _ (List.getElem_mem hil)
      have HFB : Aside0 (isBytes f2) := ⟨by rw [hf2]; exact HLO.out.2.2 _ (List.getElem_mem hil)⟩
      have HSN : Aside0 (packHead l0 ++ ((Lr.take (i + 1)).map rowBytes).flatten = p ++ [k1 % 256] ++ putV (IntKind.u64.wrap n1) 2 ++ f2) := ⟨by rw [rowBytes_snoc hil, hk1, hn1, hf2, ← HP.out.1]⟩
      rw [← hk1] at hx0
      rw [← hn1] at hx1
      rw [← hf2] at hx2
      obtain ⟨kb, hkb⟩ : ∃ kb, k1 % 256 = kb := ⟨_, rfl⟩
      have hkb2 : IntKind.u8.wrap k1 = kb := by rw [u8_mod]; exact hkb
      rw [hkb] at HSN
      have HPL : Aside0 ((p.length + 1 ≤ 140737488355328) ∧ ((p ++ [kb]).length + (putV (IntKind.u64.wrap n1) 2).length ≤ 140737488355328) ∧ ((p ++ [kb] ++ putV (IntKind.u64.wrap n1) 2).length + (strOfNums f2).size ≤ 140737488355328) ∧ (p ++ [kb] ++ putV (IntKind.u64.wrap n1) 2 ++ f2).length ≤ 6 + 1048579 * (i + 1)) := ⟨by
        have := HP.out.2
        rw [strOfNums_size]
        simp only [List.length_append, putV_length, List.length_singleton]
        omega⟩
      obtain ⟨st, hst⟩ : ∃ st, st = strOfNums f2 := ⟨_, rfl⟩
      have HST := Aside0.mk hst
      rw [← hst] at hx2
      rw [← hst] at HPL
      have HX1 := Aside0.mk hx1
      have HX2 := Aside0.mk hx2
      clear hk1 hn1 hf2 hfl hil hst hx1 hx2
      go_wp2_with (first
        | ((with_reducible refine gate_builtin (b := .append) (xs := #[.tmp 31, .tmp 38]) rfl ?_); at_builtin; go_loud (refine Kd.R_append (Kd.int .u8) (w0 := w1) w1.heap.size rfl (.tmp 31) (.tmp 38) 22 5 (.int .u8 0) 1 rfl Try.underlying22 info5 rfl (by decide) (by decide) u p kb [.int .u8 kb] (fun _ => True) (fun _ => False) rfl rfl rfl (fun _ hk => hk.elim) (fun _ _ => trivial) HO.out HB.out HB.out.size (by have := HPL.out.1; omega) ?_; intro v1 w_ ho hb2 hg hat; clear HO HB hx0; have HO := Aside0.mk ho; have HB := Aside0.mk hb2; clear ho hb2 hg hat; have hx1 := cell_under HX1.out HB.out))
        | (go_at_call 36; go_loud ((with_reducible refine (bytes2_any n1 _).mono ?_); rintro e w_ ⟨Ab, cb, rfl, hk, hb⟩; have HSK := Aside0.mk hk; clear hx1; replace HO := Aside0.mk (Kd.R_below HO.out hb); replace HB := Aside0.mk (below_step HB.out hb); clear hk hb))
        | ((with_reducible refine gate_builtin (b := .append) (xs := #[.tmp 40, .tmp 47]) rfl ?_); at_builtin; go_loud (refine wp_append_bytes rfl (.tmp 40) (.tmp 47) rfl rfl rfl rfl (putV_length _ _) (Kd.own_of_R HO.out) (by rw [putV_length]; exact HSK.out) HB.out.size HPL.out.2.1 ?_; intro v2 w_ ho hg; replace HB := Aside0.mk (HB.out.grown hg HB.out.size (fun k hk => own_base (Kd.own_of_R HO.out) k hk)); clear HO HSK; have HO := Aside0.mk ho; clear ho hg; have hx2 := cell_under HX2.out HB.out))
        | ((with_reducible refine gate_builtin (b := .append) (xs := #[.tmp 49, .tmp 54]) rfl ?_); at_builtin; go_loud (refine print_append_str (w0 := w1) w1.heap.size rfl (.tmp 49) (.tmp 54) 22 9 5 rfl Try.underlying22 Try.underlying9 info5 v2 (p ++ [kb] ++ putV (IntKind.u64.wrap n1) 2) st rfl rfl HO.out HB.out HB.out.size HPL.out.2.2.1 ?_; intro v3 w_ ho hb2 hg; rw [HST.out, bytesOf_str _ HFB.out] at ho; clear HO HB hx2; have HO := Aside0.mk ho; have HB := Aside0.mk hb2; clear ho hb2 hg)))
      go_roundw
      case rel => exact ⟨i + 1, _, v3, by omega, rfl, by go_num, ⟨HSN.out.symm, HPL.out.2.2.2⟩, ⟨Kd.R_of_own (h1 := fun _ => rfl) (enc := Value.int .u8) (ok := fun _ => True) HO.out (fun _ _ => trivial)⟩, HB⟩
      case measure => simp [intOf]; omega
    · have HE : Aside0 (p = packBody l0 Lr) := ⟨by rw [HP.out.1, List.take_of_length_le (by have := HNL.out; omega)]; rfl⟩
      obtain ⟨Au, cu, eu, hcu, _⟩ := Kd.R_reads HO.out
      subst eu
      obtain ⟨np, hnp⟩ : ∃ np, np = p.length := ⟨_, rfl⟩
      have hpl : p.length ≤ 6 + 1048579 * 4096 := by have := HP.out.2; omega
      have HNP : Aside0 (np = p.length ∧ p.length ≤ 6 + 1048579 * 4096) := ⟨hnp, hpl⟩
      have HO2 : Aside0 (Kd.R (Kd.int .u8) 5 wr w1.heap.size (fun _ => True) (.slice Au np cu) p) := ⟨by rw [hnp]; exact HO.out⟩
      obtain ⟨sm, hsm⟩ : ∃ sm, sm = Crc.sum p := ⟨_, rfl⟩
      have hsr := Crc.sum_range p
      rw [← hsm] at hsr
      have HSW : Aside0 (IntKind.u64.wrap sm = sm) := ⟨u64_wrap hsr.1 (by omega)⟩
      have HSM : Aside0 (sm = Crc.sum p) := ⟨hsm⟩
      have cS : Aside0 (∀ w' : World, Kd.R (Kd.int .u8) 5 w' w1.heap.size (fun _ => True) (.slice Au np cu) p → Calls Try.prog 37 #[.slice Au np cu] w' fun e w'' => e = .returned (.int .u32 sm) ∧ Below w'.heap.size w' w'') := ⟨fun w' ho => by
        obtain ⟨A', c', e', hc', hC'⟩ := Kd.R_reads ho
        rw [hnp] at e' ⊢
        injection e' with e1 e2 e3
        subst e1
        subst e3
        refine (leveeref01_Sum.calls (10 * p.length + 1) Au cu p sm w' hC' hc' (by rw [refSum_eq _ _ (by omega) (by omega), hsm])).mono ?_
        rintro e w'' ⟨rfl, hd⟩
        exact ⟨rfl, below_drawn0 hd⟩⟩
      rw [← hnp]
      clear hnp hpl hsm hsr hcu HO
      have HO := HO2
      clear HO2
      go_wp2_with (first
        | (go_at_call 37; go_loud ((with_reducible refine (cS.out _ HO.out).mono ?_); rintro e w_ ⟨rfl, hb⟩; replace HO := Aside0.mk (Kd.R_below HO.out hb); replace HB := Aside0.mk (below_step HB.out hb); clear hb))
        | (go_at_call 36; go_loud ((with_reducible refine (bytes4_any sm _).mono ?_); rintro e w_ ⟨Ab, cb, rfl, hk, hb⟩; have HSK := Aside0.mk hk; replace HO := Aside0.mk (Kd.R_below HO.out hb); replace HB := Aside0.mk (below_step HB.out hb); clear hk hb))
        | ((with_reducible refine gate_builtin (b := .append) (xs := #[.tmp 56, .tmp 60]) rfl ?_); at_builtin; go_loud (refine wp_append_bytes rfl (.tmp 56) (.tmp 60) rfl rfl rfl rfl (putV_length _ _) (Kd.own_of_R HO.out) (by rw [putV_length]; exact HSK.out) HB.out.size ?hl ?_; (case hl => rw [putV_length]; have := HNP.out; omega); intro v9 w_ ho hg; replace HB := Aside0.mk (HB.out.grown hg HB.out.size (fun k hk => own_base (Kd.own_of_R HO.out) k hk)); have HV := Aside0.mk ho; clear HO HSK ho hg)))
      go_ret2
      have he := HH.out
      obtain ⟨e1, e2⟩ := he
      subst e1
      subst e2
      refine ⟨v9, rfl, ?_, below_step HW0.out HB.out⟩
      rw [← HE.out, ← HSM.out]
      have hv := HV.out
      rw [HSW.out] at hv
      exact Kd.R_lower (Kd.R_of_own (h1 := fun _ => rfl) (enc := Value.int .u8) (ok := fun _ => True) hv (fun _ _ => trivial)) HW0.out.size
end Go.Proofs.Ytnlneiiccoakjaa.P
