/-
image.Blocks, walked by hand.
Conditions: none.
-/
import Derived.Test.YtnlneiiccoakjaaHandImgEq
namespace Go.Proofs.Ytnlneiiccoakjaa.P
open Go.RowKit Go.Proofs.YtnlneiiccoakjaaW.PrintWords Go.Proofs.YtnlneiiccoakjaaW.PrintLast Go.Proofs.YtnlneiiccoakjaaW.PrintMore
attribute [local go_sem] max2_int min2_int max_two min_two max_three min_three max_four min_four
set_option linter.unusedVariables false
set_option linter.unusedSimpArgs false
open Go.Proofs.Ytnlneiiccoakjaa.Num
def foldB : List S41 → List Int → Option (List Int)
  | [], b => some b
  | r :: l, b => (blockP r b).bind (foldB l)
def blocksP (l : List S41) : List Int × Int :=
  match foldB l [] with
  | none => ([], 1)
  | some b => if diskB b = true then (if sameL l (rowsN b (b.length / 256)) = true then (b, 0) else ([], 1)) else ([], 1)
def rowsB (l : List S41) : Bool := l.all fun r => bytesB r.f2
def image_Blocks.f (l0 : List S41) : Option (List Int × Int) := if rowsB l0 = true then some (blocksP l0) else none
def Fits (b : List Int) : Prop := isBytes b ∧ b.length % 256 = 0 ∧ b.length ≤ 1048576
theorem blockP_fits {r : S41} {b b' : List Int} (hr : isBytes r.f2) (hb : Fits b) (h : blockP r b = some b') : Fits b' := by
  obtain ⟨h1, h2, h3⟩ := hb
  unfold blockP at h
  by_cases c1 : r.f1 < 1 ∨ 4096 - ((b.length / 256 : Nat) : Int) < r.f1
  · rw [if_pos c1] at h; cases h
  rw [if_neg c1] at h
  obtain ⟨m, hm⟩ : ∃ m : Nat, r.f1 = (m : Int) := ⟨r.f1.toNat, by omega⟩
  rw [hm, Int.toNat_natCast] at h
  have hq : m + b.length / 256 ≤ 4096 := by omega
  have fin : ∀ room : List Int, isBytes room → room.length = 256 * m → Fits (b ++ room) := fun room g1 g2 =>
    ⟨fun x hx => (List.mem_append.mp hx).elim (h1 x) (g1 x), by rw [List.length_append, g2]; omega, by rw [List.length_append, g2]; omega⟩
  split at h
  · split at h
    · injection h with h
      subst h
      exact fin _ hr (by assumption)
    · cases h
  split at h
  · split at h
    · cases h
    · rename_i hne
      injection h with h
      subst h
      have hb0 : b.length ≠ 0 := fun e => hne (List.eq_nil_of_length_eq_zero e)
      refine fin _ (fun x hx => ?_) (flat_length (by rw [List.length_drop]; omega) m)
      obtain ⟨l, hl, hx⟩ := List.mem_flatten.mp hx
      rw [List.eq_of_mem_replicate hl] at hx
      exact h1 x (List.mem_of_mem_drop hx)
  · injection h with h
    subst h
    refine fin _ (fun x hx => ?_) List.length_replicate
    rw [List.eq_of_mem_replicate hx]
    decide
def BlockOut (w0 : World) (p : Option (List Int)) (e : Ending) (w' : World) : Prop :=
  match p with
  | none => e = .returned (.tuple #[.slice none 0 0, .bool false])
  | some b' => ∃ v, e = .returned (.tuple #[v, .bool true]) ∧ Kd.R (Kd.int .u8) 5 w' w0.heap.size (fun _ => True) v b'
set_option maxHeartbeats 16000000 in
set_option maxRecDepth 100000 in
theorem image_Blocks.calls (A0 : Option Addr) (c0 : Nat) (l0 : List S41) (r1 : List Int) (r2 : Int) (w : World) (hr0 : Kd.C k41 w A0 l0.length l0) (hc0 : l0.length ≤ c0) (h : image_Blocks.f l0 = some (r1, r2)) :
    Calls Try.prog 14 #[.slice A0 l0.length c0] w fun e w' => ∃ v0_ : Value, e = .returned (.tuple #[v0_, .int .i64 r2]) ∧ Kd.R (Kd.int .u8) 5 w' w.heap.size (fun _ => True) v0_ r1 ∧ Below w.heap.size w w' := by
  unfold image_Blocks.f at h
  split at h
  case isFalse => exact absurd h (by simp)
  rename_i hbb
  have hbytes : ∀ r ∈ l0, isBytes r.f2 := fun r hr => bytesB_iff.mp (List.all_eq_true.mp hbb r hr)
  have h := Option.some.inj h
  obtain ⟨n, hn⟩ : ∃ n, n = l0.length := ⟨_, rfl⟩
  have HB := Aside0.mk (Below.refl w.heap.size w)
  have HR0 := Aside0.mk hr0
  have HN : Aside0 (n = l0.length ∧ n ≤ 9223372036854775807) := ⟨hn, by rw [hn]; exact hr0.2.1⟩
  have HBY := Aside0.mk hbytes
  have HP : Aside0 (blocksP l0 = (r1, r2)) := ⟨h⟩
  rw [← hn]
  clear hr0 hbb hbytes h hn
  go_enter Try.func14, Try.ntmps14
  go_wp2
  go_loopw [4, 12] (fun v4 v12 wr => ∃ (i : Nat) (b : List Int) (u : Value), i ≤ n ∧ v4 = u ∧ v12 = .int .i64 i ∧ Aside0 (foldB l0 [] = foldB (l0.drop i) b ∧ Fits b) ∧ Aside0 (Kd.R (Kd.int .u8) 5 wr w.heap.size (fun _ => True) u b) ∧ Aside0 (Below w.heap.size w wr)) (fun _ v12 _ => n - (intOf v12).toNat)
  case atStart => exact ⟨0, [], _, by omega, rfl, rfl, ⟨rfl, fun x hx => absurd hx (by simp), rfl, Nat.zero_le _⟩, ⟨Kd.R_nil _ _ _ _ _⟩, HB⟩
  case round =>
    clear HB
    obtain ⟨i, b, u, hi, hu, rfl, HF, HU, HW⟩ := hrel
    have hu' := hu.symm
    clear hu
    subst hu'
    have HB := Aside0.mk (Below.refl wr.heap.size wr)
    by_cases hin : i < n
    · have hil : i < l0.length := by have := HN.out; omega
      obtain ⟨ax, Ax, cx, eA, hx0, hx1, hx2, hxc, hxr⟩ := row_at HR0.out i hil
      subst eA
      replace hx0 := cell_under hx0 HW.out
      replace hx1 := cell_under hx1 HW.out
      replace hx2 := cell_under hx2 HW.out
      obtain ⟨x, ex⟩ : ∃ x, x = l0[i] := ⟨_, rfl⟩
      rw [← ex] at hx0 hx1 hx2 hxc hxr
      have hxb : isBytes x.f2 := HBY.out x (by rw [ex]; exact List.getElem_mem hil)
      have HFE : Aside0 (foldB l0 [] = (blockP x b).bind (foldB (l0.drop (i + 1)))) := ⟨by rw [HF.out.1, List.drop_eq_getElem_cons hil, ← ex]; rfl⟩
      obtain ⟨p, hp⟩ : ∃ p, p = blockP x b := ⟨_, rfl⟩
      have cB : Aside0 (∀ w' : World, Below wr.heap.size wr w' → Calls Try.prog 28 #[.agg #[.int .i64 x.f0, .int .i64 x.f1, .slice Ax x.f2.length cx], u] w' fun e w'' => BlockOut w p e w'' ∧ Below w.heap.size w w'') := ⟨fun w' hb => by
        rw [hp]
        exact row_blocks.calls x b Ax cx u w w' (below_step HW.out hb) (Kd.C_below hxr (below_step HW.out hb)) hxc (Kd.R_below HU.out hb) HF.out.2.2.1 HF.out.2.2.2⟩
      have HXB := Aside0.mk hxb
      have HPE := Aside0.mk hp
      clear hp
      clear hil hxc hxr ex hxb
      generalize x.f2.length = nx at hx2 cB
      generalize x.f0 = k1 at hx0 cB
      generalize x.f1 = n1 at hx1 cB
      cases p with
      | none =>
        have cB : Aside0 (∀ w' : World, Below wr.heap.size wr w' → Calls Try.prog 28 #[.agg #[.int .i64 k1, .int .i64 n1, .slice Ax nx cx], u] w' fun e w'' => e = .returned (.tuple #[.slice none 0 0, .bool false]) ∧ Below w.heap.size w w'') := cB
        have hrr : blocksP l0 = ([], 1) := by
          unfold blocksP
          rw [HFE.out, ← HPE.out]
          rfl
        rw [HP.out] at hrr
        injection hrr with e1 e2
        subst e1
        subst e2
        go_wp2_with (first
          | ((with_reducible refine gate_dst (N := 7) rfl ?_); go_loud (refine box_event ?hg (N := 7) ?hd (cs := #[.int .i64 0, .int .i64 0, .slice none 0 0]) (t := 41) ?hr ?_; (case hd => rfl); (case hg => rfl); (case hr => first | kernel_rfl | (go_simp; done) | (go_simp; rfl)); intro ga hg w_ hx hb; have GE_HX := Aside0.mk (show wr.heap.size ≤ ga by rw [hg]; exact HB.out.size); clear hg; replace HB := Aside0.mk (below_step HB.out hb); clear hb; have HX : Aside0 (w_.heap[ga]? = some (.cells #[.int .i64 0, .int .i64 0, .slice none 0 0] 41 (0, 0))) := ⟨hx⟩; clear hx; have cHX_0 := (blk_cell HX.out 0).trans (show _ = some (Value.int .i64 0) from rfl); have cHX_1 := (blk_cell HX.out 1).trans (show _ = some (Value.int .i64 0) from rfl); have cHX_2 := (blk_cell HX.out 2).trans (show _ = some (Value.slice none 0 0) from rfl)))
          | ((refine gate_store (t := 41) (p := 7) rfl ?_); go_loud (refine store_whole ?hgd ?hN (p := 7) (v := .tmp 15) ?ho ga (k1) (n1) (.slice Ax nx cx) rfl ?hx ?hy _ _ _ _ HX.out wr.heap.size wr HB.out GE_HX.out ?_; (case hgd => rfl); (case hN => rfl); (case ho => rfl); (case hx => rfl); (case hy => rfl); intro w_ hx_ ho_ hb_; clear cHX_0 cHX_1 cHX_2; clear HB; have HB := Aside0.mk hb_; clear hb_ HX; have HX : Aside0 (w_.heap[ga]? = some (.cells #[.int .i64 k1, .int .i64 n1, .slice Ax nx cx] 41 (0, 0))) := ⟨hx_⟩; clear hx_ ho_; have cHX_0 := (blk_cell HX.out 0).trans (show _ = some (Value.int .i64 k1) from rfl); have cHX_1 := (blk_cell HX.out 1).trans (show _ = some (Value.int .i64 n1) from rfl); have cHX_2 := (blk_cell HX.out 2).trans (show _ = some (Value.slice Ax nx cx) from rfl)))
          | (go_at_call 28; go_loud ((with_reducible refine (cB.out _ HB.out).mono ?_); rintro e w_ ⟨rfl, hb⟩; clear cHX_0 cHX_1 cHX_2; clear HB HX; have HB := Aside0.mk hb; clear hb)))
        go_ret2
        exact ⟨_, rfl, Kd.R_nil _ _ _ _ _, HB.out⟩
      | some b' =>
        have cB : Aside0 (∀ w' : World, Below wr.heap.size wr w' → Calls Try.prog 28 #[.agg #[.int .i64 k1, .int .i64 n1, .slice Ax nx cx], u] w' fun e w'' => (∃ v, e = .returned (.tuple #[v, .bool true]) ∧ Kd.R (Kd.int .u8) 5 w'' w.heap.size (fun _ => True) v b') ∧ Below w.heap.size w w'') := cB
        have HFB := Aside0.mk (blockP_fits HXB.out HF.out.2 HPE.out.symm)
        have hnb : n ≤ 9223372036854775807 := HN.out.2
        go_wp2_with (first
          | ((with_reducible refine gate_dst (N := 7) rfl ?_); go_loud (refine box_event ?hg (N := 7) ?hd (cs := #[.int .i64 0, .int .i64 0, .slice none 0 0]) (t := 41) ?hr ?_; (case hd => rfl); (case hg => rfl); (case hr => first | kernel_rfl | (go_simp; done) | (go_simp; rfl)); intro ga hg w_ hx hb; have GE_HX := Aside0.mk (show wr.heap.size ≤ ga by rw [hg]; exact HB.out.size); clear hg; replace HB := Aside0.mk (below_step HB.out hb); clear hb; have HX : Aside0 (w_.heap[ga]? = some (.cells #[.int .i64 0, .int .i64 0, .slice none 0 0] 41 (0, 0))) := ⟨hx⟩; clear hx; have cHX_0 := (blk_cell HX.out 0).trans (show _ = some (Value.int .i64 0) from rfl); have cHX_1 := (blk_cell HX.out 1).trans (show _ = some (Value.int .i64 0) from rfl); have cHX_2 := (blk_cell HX.out 2).trans (show _ = some (Value.slice none 0 0) from rfl)))
          | ((refine gate_store (t := 41) (p := 7) rfl ?_); go_loud (refine store_whole ?hgd ?hN (p := 7) (v := .tmp 15) ?ho ga (k1) (n1) (.slice Ax nx cx) rfl ?hx ?hy _ _ _ _ HX.out wr.heap.size wr HB.out GE_HX.out ?_; (case hgd => rfl); (case hN => rfl); (case ho => rfl); (case hx => rfl); (case hy => rfl); intro w_ hx_ ho_ hb_; clear cHX_0 cHX_1 cHX_2; clear HB; have HB := Aside0.mk hb_; clear hb_ HX; have HX : Aside0 (w_.heap[ga]? = some (.cells #[.int .i64 k1, .int .i64 n1, .slice Ax nx cx] 41 (0, 0))) := ⟨hx_⟩; clear hx_ ho_; have cHX_0 := (blk_cell HX.out 0).trans (show _ = some (Value.int .i64 k1) from rfl); have cHX_1 := (blk_cell HX.out 1).trans (show _ = some (Value.int .i64 n1) from rfl); have cHX_2 := (blk_cell HX.out 2).trans (show _ = some (Value.slice Ax nx cx) from rfl)))
          | (go_at_call 28; go_loud ((with_reducible refine (cB.out _ HB.out).mono ?_); rintro e w_ ⟨⟨v, rfl, hR⟩, hb⟩; clear cHX_0 cHX_1 cHX_2; clear HB HX; have HB := Aside0.mk hb; clear hb; have HV := Aside0.mk hR; clear hR)))
        go_roundw
        case rel => exact ⟨i + 1, b', v, by omega, rfl, by go_num, ⟨by rw [HFE.out, ← HPE.out]; rfl, HFB.out⟩, HV, HB⟩
        case measure => simp [intOf]; omega
    · have hF : foldB l0 [] = some b := by
        have := HN.out
        rw [HF.out.1, List.drop_of_length_le (by omega)]; rfl
      obtain ⟨Ab, cb, eb, hcb, hCb⟩ := Kd.R_reads HU.out
      subst eb
      have hP := HP.out
      unfold blocksP at hP
      rw [hF] at hP
      simp only at hP
      by_cases hd : diskB b = true
      case neg =>
        rw [if_neg hd] at hP
        injection hP with e1 e2
        subst e1
        subst e2
        have hfr : image_Rows.f b = some ([], 1) := by
          unfold image_Rows.f rowsP
          rw [if_pos (bytesB_iff.mpr HF.out.2.1), if_neg hd]
        have cR : Aside0 (∀ w' : World, Below wr.heap.size wr w' → Calls Try.prog 9 #[.slice Ab b.length cb] w' fun e w'' => ∃ v0_ : Value, e = .returned (.tuple #[v0_, .int .i64 1]) ∧ Kd.R k41 41 w'' w'.heap.size (fun _ => True) v0_ [] ∧ Below w'.heap.size w' w'') := ⟨fun w' hb => image_Rows.calls Ab cb b [] 1 w' (Kd.C_below hCb hb) hcb hfr⟩
        clear hfr hd hF hcb hCb
        generalize b.length = nb at cR
        go_wp2_with (first
          | (go_at_call 9; go_loud ((with_reducible refine (cR.out _ HB.out).mono ?_); rintro e w_ ⟨v0, rfl, hR, hb⟩; replace HB := Aside0.mk (below_step HB.out hb); clear hb; clear hR)))
        go_ret2
        exact ⟨_, rfl, Kd.R_nil _ _ _ _ _, below_step HW.out HB.out⟩
      rw [if_pos hd] at hP
      obtain ⟨m, hm⟩ : ∃ m, m = rowsN b (b.length / 256) := ⟨_, rfl⟩
      have hfr : image_Rows.f b = some (m, 0) := by
        unfold image_Rows.f rowsP
        rw [if_pos (bytesB_iff.mpr HF.out.2.1), if_pos hd, hm]
      have cR : Aside0 (∀ w' : World, Below wr.heap.size wr w' → Calls Try.prog 9 #[.slice Ab b.length cb] w' fun e w'' => ∃ v0_ : Value, e = .returned (.tuple #[v0_, .int .i64 0]) ∧ Kd.R k41 41 w'' w'.heap.size (fun _ => True) v0_ m ∧ Below w'.heap.size w' w'') := ⟨fun w' hb => image_Rows.calls Ab cb b m 0 w' (Kd.C_below hCb hb) hcb hfr⟩
      obtain ⟨t, ht⟩ : ∃ t, t = sameL l0 m := ⟨_, rfl⟩
      have hok := rowsN_ok b (b.length / 256)
      rw [← hm] at hok hP
      rw [← ht] at hP
      have hbl := HF.out.2.2.2
      have cE : Aside0 (∀ (w' : World) (Am : Option Addr) (cm : Nat) (base : Nat), Below wr.heap.size wr w' → Kd.R k41 41 w' base (fun _ => True) (.slice Am m.length cm) m → Calls Try.prog 29 #[.slice A0 n c0, .slice Am m.length cm, .func (.func 30) #[] #[]] w' fun e w'' => e = .returned (.bool t) ∧ Below w'.heap.size w' w'') := ⟨fun w' Am cm base hb hR => by
        obtain ⟨A', c', e', _, hC⟩ := Kd.R_reads hR
        injection e' with e1 e2 e3
        subst e1
        rw [HN.out.1, ht]
        exact equal_rows.calls l0 m A0 c0 Am cm w' (Kd.C_below HR0.out (below_step HW.out hb)) hC (fun y hy => by have := (hok.2 y hy).2.2; omega) (by have := hok.1; omega)⟩
      have HPP := Aside0.mk hP
      clear hfr hd hF hcb hCb hok ht hm hbl hP
      generalize hnb : b.length = nb at cR
      have HNB := Aside0.mk hnb
      clear hnb
      cases t
      · have hP := HPP.out
        rw [if_neg (by decide)] at hP
        injection hP with e1 e2
        subst e1
        subst e2
        go_wp2_with (first
          | (go_at_call 9; go_loud ((with_reducible refine (cR.out _ HB.out).mono ?_); rintro e w_ ⟨v0, rfl, hR, hb⟩; replace HB := Aside0.mk (below_step HB.out hb); clear hb; have HM := Aside0.mk hR; clear hR; obtain ⟨Am, cm, em, _, _⟩ := Kd.R_reads HM.out; subst em))
          | (go_at_call 29; go_loud ((with_reducible refine (cE.out _ _ _ _ HB.out HM.out).mono ?_); rintro e w_ ⟨rfl, hb⟩; replace HB := Aside0.mk (below_step HB.out hb); clear hb)))
        go_ret2
        exact ⟨_, rfl, Kd.R_nil _ _ _ _ _, below_step HW.out HB.out⟩
      · have hP := HPP.out
        rw [if_pos rfl] at hP
        injection hP with e1 e2
        subst e1
        subst e2
        go_wp2_with (first
          | (go_at_call 9; go_loud ((with_reducible refine (cR.out _ HB.out).mono ?_); rintro e w_ ⟨v0, rfl, hR, hb⟩; replace HB := Aside0.mk (below_step HB.out hb); clear hb; have HM := Aside0.mk hR; clear hR; obtain ⟨Am, cm, em, _, _⟩ := Kd.R_reads HM.out; subst em))
          | (go_at_call 29; go_loud ((with_reducible refine (cE.out _ _ _ _ HB.out HM.out).mono ?_); rintro e w_ ⟨rfl, hb⟩; replace HB := Aside0.mk (below_step HB.out hb); clear hb)))
        go_ret2
        refine ⟨_, rfl, ?_, below_step HW.out HB.out⟩
        have q := Kd.R_below HU.out HB.out
        rw [HNB.out] at q
        exact q
end Go.Proofs.Ytnlneiiccoakjaa.P
