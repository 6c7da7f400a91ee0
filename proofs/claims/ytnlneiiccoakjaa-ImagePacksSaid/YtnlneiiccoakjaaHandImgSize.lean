/-
image.Size, walked by hand.
Conditions: none.
-/
import Derived.Test.YtnlneiiccoakjaaHandImgPack
namespace Go.Proofs.Ytnlneiiccoakjaa.P
open Go.RowKit Go.Proofs.YtnlneiiccoakjaaW.PrintWords Go.Proofs.YtnlneiiccoakjaaW.PrintLast Go.Proofs.YtnlneiiccoakjaaW.PrintMore
attribute [local go_sem] max2_int min2_int max_two min_two max_three min_three max_four min_four
set_option linter.unusedVariables false
set_option linter.unusedSimpArgs false
open Go.Proofs.Ytnlneiiccoakjaa.Num Go.Proofs.Ytnlneiiccoakjaa.Plain
def sizeN (l : List S41) : Nat := 10 + ((l.map rowBytes).flatten).length
def sizeP (b : List Int) : Int × Int := if diskB b = true then ((sizeN (rowsP b).1 : Nat), 0) else (0, 1)
def image_Size.f (l0 : List Int) : Option (Int × Int) := if bytesB l0 = true then some (sizeP l0) else none
theorem rowBytes_len (r : S41) : (rowBytes r).length = 3 + r.f2.length := by
  unfold rowBytes
  simp only [List.length_append, putV_length, List.length_singleton]
theorem sizeN_snoc {l : List S41} {i : Nat} (h : i < l.length) : sizeN (l.take (i + 1)) = sizeN (l.take i) + (3 + l[i].f2.length) := by
  unfold sizeN
  rw [List.take_succ_eq_append_getElem h, List.map_append, List.flatten_append, List.length_append]
  simp only [List.map_cons, List.map_nil, List.flatten_cons, List.flatten_nil, List.append_nil, rowBytes_len]
  omega
theorem add_w (a b c : Nat) (h : c = a + b) (hc : c ≤ 4611686018427387904) : wrap64 ((a : Int) + (b : Int)) = (c : Int) ∧ IntKind.i64.wrap ((a : Int) + (b : Int)) = (c : Int) := by
  have e : wrap64 ((a : Int) + (b : Int)) = (c : Int) := by rw [w64 (by omega) (by omega)]; omega
  exact ⟨e, (i64_w _).trans e⟩
theorem add_w3 (b c : Nat) (h : c = 3 + b) (hc : c ≤ 4611686018427387904) : wrap64 (3 + (b : Int)) = (c : Int) ∧ IntKind.i64.wrap (3 + (b : Int)) = (c : Int) := by
  have e : wrap64 (3 + (b : Int)) = (c : Int) := by rw [w64 (by omega) (by omega)]; omega
  exact ⟨e, (i64_w _).trans e⟩
set_option maxHeartbeats 16000000 in
set_option maxRecDepth 100000 in
theorem image_Size.calls (A0 : Option Addr) (c0 : Nat) (l0 : List Int) (r1 : Int) (r2 : Int) (w : World) (hr0 : Kd.C (Kd.int .u8) w A0 l0.length l0) (hc0 : l0.length ≤ c0) (h : image_Size.f l0 = some (r1, r2)) :
    Calls Try.prog 22 #[.slice A0 l0.length c0] w fun e w' => e = .returned (.tuple #[.int .i64 r1, .int .i64 r2]) ∧ Below w.heap.size w w' := by
  unfold image_Size.f at h
  split at h
  case isFalse => exact absurd h (by simp)
  rename_i hbb
  have h := Option.some.inj h
  unfold sizeP at h
  have HB := Aside0.mk (Below.refl w.heap.size w)
  obtain ⟨n, hn⟩ : ∃ n, n = l0.length := ⟨_, rfl⟩
  by_cases hd : diskB l0 = true
  case neg =>
    rw [if_neg hd] at h
    injection h with e1 e2
    subst e1
    subst e2
    have cR : Aside0 (∀ w' : World, Below w.heap.size w w' → Calls Try.prog 9 #[.slice A0 n c0] w' fun e w'' => ∃ v0_ : Value, e = .returned (.tuple #[v0_, .int .i64 1]) ∧ Kd.R k41 41 w'' w'.heap.size (fun _ => True) v0_ [] ∧ Below w'.heap.size w' w'') := ⟨fun w' hb => by
      rw [hn]
      exact image_Rows.calls A0 c0 l0 [] 1 w' (Kd.C_below hr0 hb) hc0 (by unfold image_Rows.f rowsP; rw [if_pos hbb, if_neg hd])⟩
    rw [← hn]
    clear hr0 hbb hd hn hc0
    go_enter Try.func22, Try.ntmps22
    go_wp2_with (first
      | (go_at_call 9; go_loud ((with_reducible refine (cR.out _ HB.out).mono ?_); rintro e w_ ⟨v0, rfl, hR, hb⟩; replace HB := Aside0.mk (below_step HB.out hb); clear hb; clear hR)))
    go_ret2
    exact ⟨rfl, HB.out⟩
  rw [if_pos hd] at h
  have hd' : l0.length ≠ 0 ∧ l0.length % 256 = 0 ∧ l0.length ≤ 1048576 := of_decide_eq_true hd
  obtain ⟨Lr, hLr⟩ : ∃ Lr, Lr = (rowsP l0).1 := ⟨_, rfl⟩
  have hLe : Lr = rowsN l0 (l0.length / 256) := by rw [hLr]; unfold rowsP; rw [if_pos hd]
  have hok := rowsN_ok l0 (l0.length / 256)
  rw [← hLe] at hok
  have cR : Aside0 (∀ w' : World, Below w.heap.size w w' → Calls Try.prog 9 #[.slice A0 n c0] w' fun e w'' => ∃ v0_ : Value, e = .returned (.tuple #[v0_, .int .i64 0]) ∧ Kd.R k41 41 w'' w'.heap.size (fun _ => True) v0_ Lr ∧ Below w'.heap.size w' w'') := ⟨fun w' hb => by
    rw [hn]
    exact image_Rows.calls A0 c0 l0 Lr 0 w' (Kd.C_below hr0 hb) hc0 (by unfold image_Rows.f rowsP; rw [if_pos hbb, if_pos hd, hLe])⟩
  rw [← hLr] at h
  have HLO : Aside0 (Lr.length ≤ 4096 ∧ ∀ y ∈ Lr, y.f2.length ≤ 1048576) := ⟨by have := hok.1; omega, fun y hy => by have := (hok.2 y hy).2.2; omega⟩
  have HH : Aside0 (((sizeN Lr : Nat) : Int) = r1 ∧ (0 : Int) = r2) := ⟨by injection h with e1 e2; exact ⟨e1, e2⟩⟩
  rw [← hn]
  clear hr0 hbb hd hd' hn hc0 h hok hLe hLr
  go_enter Try.func22, Try.ntmps22
  go_upto_region 4 with (first
    | (go_at_call 9; go_loud ((with_reducible refine (cR.out _ HB.out).mono ?_); rintro e w1 ⟨v0, rfl, hR, hb⟩; have HW0 := Aside0.mk (below_step HB.out hb); obtain ⟨Al, cl, el, hlc, hC⟩ := Kd.R_reads hR; subst el; have HCL := Aside0.mk hC; clear HB hb hR hlc hC; have HB := Aside0.mk (Below.refl w1.heap.size w1))))
  obtain ⟨nl, hnl⟩ : ∃ nl, nl = Lr.length := ⟨_, rfl⟩
  have HNL : Aside0 (nl = Lr.length ∧ nl ≤ 4096) := ⟨hnl, by rw [hnl]; exact HLO.out.1⟩
  rw [← hnl]
  clear hnl
  go_wp2
  go_loopw [6, 19] (fun v6 v19 wr => ∃ (i s : Nat), i ≤ nl ∧ v6 = .int .i64 (s : Int) ∧ v19 = .int .i64 i ∧ Aside0 (s = sizeN (Lr.take i) ∧ s ≤ 10 + 1048579 * i) ∧ Aside0 (Below w1.heap.size w1 wr)) (fun _ v19 _ => nl - (intOf v19).toNat)
  case atStart => exact ⟨0, 10, by omega, rfl, rfl, ⟨rfl, by decide⟩, HB⟩
  case round =>
    clear HB
    obtain ⟨i, s, hi, rfl, rfl, HS, HW1⟩ := hrel
    have hnb : nl ≤ 4096 := HNL.out.2
    by_cases hin : i < nl
    · have hil : i < Lr.length := by have := HNL.out; omega
      obtain ⟨ax, Ax, cx, eA, hx0, hx1, hx2, hxc, hxr⟩ := row_at HCL.out i hil
      subst eA
      replace hx0 := cell_under hx0 HW1.out
      replace hx1 := cell_under hx1 HW1.out
      replace hx2 := cell_under hx2 HW1.out
      obtain ⟨k1, hk1⟩ : ∃ k, k = Lr[i].f0 := ⟨_, rfl⟩
      obtain ⟨n1, hn1⟩ : ∃ k, k = Lr[i].f1 := ⟨_, rfl⟩
      obtain ⟨nx, hnx⟩ : ∃ k, k = Lr[i].f2.length := ⟨_, rfl⟩
      have hfl : nx ≤ 1048576 := by rw [hnx]; exact HLO.out.2 _ (List.getElem_mem hil)
      have hss := sizeN_snoc hil
      rw [← hnx] at hss
      have hs := HS.out
      rw [← hk1] at hx0
      rw [← hn1] at hx1
      rw [← hnx] at hx2
      obtain ⟨t3, ht3⟩ : ∃ t3 : Nat, t3 = 3 + nx := ⟨_, rfl⟩
      obtain ⟨s2, hs2⟩ : ∃ s2 : Nat, s2 = s + t3 := ⟨_, rfl⟩
      have HW1_ := Aside0.mk (add_w3 nx t3 ht3 (by omega))
      have HW2_ := Aside0.mk (add_w s t3 s2 hs2 (by omega))
      have HSN : Aside0 (s2 = sizeN (Lr.take (i + 1)) ∧ s2 ≤ 10 + 1048579 * (i + 1)) := ⟨by omega⟩
      clear hk1 hn1 hnx hxc hxr hil hss hs ht3 hs2 hfl
      obtain ⟨h1w, h1w'⟩ := HW1_.out
      obtain ⟨h2w, h2w'⟩ := HW2_.out
      have HB := Aside0.mk (Below.refl wr.heap.size wr)
      go_wp2_with (first
        | ((with_reducible refine gate_dst (N := 8) rfl ?_); go_loud (refine box_event ?hg (N := 8) ?hd (cs := #[.int .i64 0, .int .i64 0, .slice none 0 0]) (t := 41) ?hr ?_; (case hd => rfl); (case hg => rfl); (case hr => first | kernel_rfl | (go_simp; done) | (go_simp; rfl)); intro ga hg w_ hx hb; have GE_HX := Aside0.mk (show wr.heap.size ≤ ga by rw [hg]; exact HB.out.size); clear hg; replace HB := Aside0.mk (below_step HB.out hb); clear hb; have HX : Aside0 (w_.heap[ga]? = some (.cells #[.int .i64 0, .int .i64 0, .slice none 0 0] 41 (0, 0))) := ⟨hx⟩; clear hx; have cHX_0 := (blk_cell HX.out 0).trans (show _ = some (Value.int .i64 0) from rfl); have cHX_1 := (blk_cell HX.out 1).trans (show _ = some (Value.int .i64 0) from rfl); have cHX_2 := (blk_cell HX.out 2).trans (show _ = some (Value.slice none 0 0) from rfl)))
        | ((refine gate_store (t := 41) (p := 8) rfl ?_); go_loud (refine store_whole ?hgd ?hN (p := 8) (v := .tmp 22) ?ho ga (k1) (n1) (.slice Ax nx cx) rfl ?hx ?hy _ _ _ _ HX.out wr.heap.size wr HB.out GE_HX.out ?_; (case hgd => rfl); (case hN => rfl); (case ho => rfl); (case hx => rfl); (case hy => rfl); intro w_ hx_ ho_ hb_; clear cHX_0 cHX_1 cHX_2; clear HB; have HB := Aside0.mk hb_; clear hb_ HX; have HX : Aside0 (w_.heap[ga]? = some (.cells #[.int .i64 k1, .int .i64 n1, .slice Ax nx cx] 41 (0, 0))) := ⟨hx_⟩; clear hx_ ho_; have cHX_0 := (blk_cell HX.out 0).trans (show _ = some (Value.int .i64 k1) from rfl); have cHX_1 := (blk_cell HX.out 1).trans (show _ = some (Value.int .i64 n1) from rfl); have cHX_2 := (blk_cell HX.out 2).trans (show _ = some (Value.slice Ax nx cx) from rfl))))
      have HB1 := Aside0.mk (below_step HW1.out HB.out)
      clear h1w h1w' h2w h2w'
      go_roundw
      case rel => exact ⟨i + 1, s2, by omega, by go_num, by go_num, HSN, HB1⟩
      case measure => simp [intOf]; omega
    · have HE : Aside0 ((s : Int) = r1 ∧ (0 : Int) = r2) := ⟨by rw [HS.out.1, List.take_of_length_le (by have := HNL.out; omega)]; exact HH.out⟩
      go_wp2
      go_ret2
      have he := HE.out
      obtain ⟨e1, e2⟩ := he
      subst e1
      subst e2
      exact ⟨rfl, below_step HW0.out HW1.out⟩
end Go.Proofs.Ytnlneiiccoakjaa.P
