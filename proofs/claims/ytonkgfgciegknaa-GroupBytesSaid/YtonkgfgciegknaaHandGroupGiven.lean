/-
leveelaw06.given, walked by hand.
Conditions: none.
-/
import Derived.Test.YtonkgfgciegknaaHandGroupT
namespace Go.Proofs.Ytonkgfgciegknaa.P
open Go.RowKit Go.Proofs.YtonkgfgciegknaaW.PrintWords Go.Proofs.YtonkgfgciegknaaW.PrintLast Go.Proofs.YtonkgfgciegknaaW.PrintMore
attribute [local go_sem] max2_int min2_int max_two min_two max_three min_three max_four min_four
set_option linter.unusedVariables false
set_option linter.unusedSimpArgs false
/-- The first i of some bytes, made n long. -/
def pad (n : Nat) (l : List Int) (i : Nat) : List Int := l.take i ++ zeros (n - i)
def padF (n : Nat) (l : List Int) : List Int := pad n l (min n l.length)
theorem pad_length {n i : Nat} {l : List Int} (h : i ≤ n) (h2 : i ≤ l.length) : (pad n l i).length = n := by
  rw [pad, List.length_append, List.length_take, zeros, List.length_replicate]; omega
theorem pad_zero (n : Nat) (l : List Int) : pad n l 0 = zeros n := by simp [pad]
theorem pad_set {n i : Nat} {l : List Int} (h : i < n) (h2 : i < l.length) : (pad n l i).set i (rd l (i : Int)) = pad n l (i + 1) := by
  have hl : (l.take i).length = i := by rw [List.length_take]; omega
  rw [pad, List.set_append_right _ _ (by omega), hl, Nat.sub_self, show n - i = (n - (i + 1)) + 1 by omega, zeros, List.replicate_succ, List.set_cons_zero, pad, take_rd' l i h2, List.append_assoc]
  rfl
theorem pad_bytes {n i : Nat} {l : List Int} (h : Bits.isBytes l) : Bits.isBytes (pad n l i) := by
  intro x hx
  rcases List.mem_append.mp hx with hx | hx
  · exact h x (List.mem_of_mem_take hx)
  · rw [List.eq_of_mem_replicate hx]; exact ⟨by decide, by decide⟩
theorem pad_maps {l1 l2 : List Int} {i k : Nat} (h : i ≤ 16) (h2 : i ≤ l1.length) (k1 : k ≤ 8) (k2 : k ≤ l2.length) : Maps (pad 16 l1 i) (pad 8 l2 k) := ⟨pad_length h h2, pad_length k1 k2⟩
theorem padF_HM {l1 l2 : List Int} (h1 : Bits.isBytes l1) (h2 : Bits.isBytes l2) : HM (padF 16 l1) (padF 8 l2) :=
  ⟨pad_maps (Nat.min_le_left _ _) (Nat.min_le_right _ _) (Nat.min_le_left _ _) (Nat.min_le_right _ _), pad_bytes h1, pad_bytes h2⟩
theorem put_pad1 {w : World} {g : Nat} {no : Int} {l1 l2 : List Int} {i k : Nat} (h : HeadAt w g no (pad 16 l1 i) (pad 8 l2 k)) (hi : i < 16) (h2 : i < l1.length) (k1 : k ≤ 8) (k2 : k ≤ l2.length) : HeadAt (w.setCell ⟨g, 1 + i, none⟩ (.int .u8 (rd l1 (i : Int)))) g no (pad 16 l1 (i + 1)) (pad 8 l2 k) := by
  have := put_bl h (pad_maps (by omega) (by omega) k1 k2) i hi (rd l1 (i : Int))
  rwa [pad_set hi h2] at this
theorem put_pad2 {w : World} {g : Nat} {no : Int} {l1 l2 : List Int} {i k : Nat} (h : HeadAt w g no (pad 16 l1 i) (pad 8 l2 k)) (hi : i ≤ 16) (h2 : i ≤ l1.length) (k1 : k < 8) (k2 : k < l2.length) : HeadAt (w.setCell ⟨g, 17 + k, none⟩ (.int .u8 (rd l2 (k : Int)))) g no (pad 16 l1 i) (pad 8 l2 (k + 1)) := by
  have := put_sl h (pad_maps hi h2 (by omega) (by omega)) k k1 (rd l2 (k : Int))
  rwa [pad_set k1 k2] at this
set_option maxHeartbeats 16000000 in
set_option maxRecDepth 100000 in
theorem given_any (no : Int) (A1 : Option Addr) (c1 : Nat) (l1 : List Int) (A2 : Option Addr) (c2 : Nat) (l2 : List Int) (w : World) (hr1 : Kd.C (Kd.int .u8) w A1 l1.length l1) (hr2 : Kd.C (Kd.int .u8) w A2 l2.length l2) (hb1 : Bits.isBytes l1) (hb2 : Bits.isBytes l2) :
    Calls Try.prog 6 #[.int .i64 no, .slice A1 l1.length c1, .slice A2 l2.length c2] w fun e w' => e = .returned (headV no (padF 16 l1) (padF 8 l2)) ∧ Below w.heap.size w w' := by
  have HZ := Aside0.mk zeros_maps
  have HR1 := Aside0.mk hr1
  have HR2 := Aside0.mk hr2
  have HMF := Aside0.mk (padF_HM hb1 hb2).maps
  have HB := Aside0.mk (Below.refl w.heap.size w)
  have hbn := built_no no
  clear hr1 hr2 hb1 hb2
  go_enter Try.func6, Try.ntmps6
  go_wp2_with (first
    | ((with_reducible refine gate_dst (N := 6) rfl ?_); go_loud (refine box_event ?hg (N := 6) ?hd (cs := (headC 0 (zeros 16) (zeros 8)).toArray) (t := 28) ?hr ?_; (case hd => rfl); (case hg => rfl); (case hr => kernel_rfl); intro g6 hg w_ hx hb; have GE_HX := Aside0.mk (show w.heap.size ≤ g6 by have := HB.out.size; omega); clear hg; replace HB := Aside0.mk (below_step HB.out hb); clear hb; have HX : Aside0 (HeadAt w_ g6 0 (zeros 16) (zeros 8)) := ⟨hx⟩; clear hx; have cHX_n := cell_no HX.out))
    | ((with_reducible refine gate_dst (N := 7) rfl ?_); go_loud (refine box_event ?hg (N := 7) ?hd (cs := (headC 0 (zeros 16) (zeros 8)).toArray) (t := 28) ?hr ?_; (case hd => rfl); (case hg => rfl); (case hr => kernel_rfl); intro g7 hg w_ hx hb; have NE_HX_HY := Aside0.mk (new_ne HX.out hg); have GE_HY := Aside0.mk (show w.heap.size ≤ g7 by have := HB.out.size; omega); clear hg; clear cHX_n; replace HB := Aside0.mk (below_step HB.out hb); replace HX := Aside0.mk (HeadAt.below HX.out hb); clear hb; have HY : Aside0 (HeadAt w_ g7 0 (zeros 16) (zeros 8)) := ⟨hx⟩; clear hx; have cHX_n := cell_no HX.out; have cHY_n := cell_no HY.out))
    | ((refine gate_store (t := 28) (p := 7) rfl ?_); go_loud (refine store_all (P := Try.prog) (t := 28) (p := 7) (v := .tmp 11) ?hgd ?hN ?ho g7 (headC no (zeros 16) (zeros 8)) ?hx ?hy _ _ HY.out (hi_head HZ.out) (hold_head HZ.out HZ.out) (head_one _ _ _) w.heap.size w HB.out GE_HY.out ?_; (case hgd => rfl); (case hN => rfl); (case ho => rfl); (case hx => rfl); (case hy => rfl); intro w_ hx_ ho_ hb_; clear cHX_n cHY_n; replace HX := Aside0.mk (HeadAt.other HX.out ho_ NE_HX_HY.out); clear HB; have HB := Aside0.mk hb_; clear hb_; clear HY; have HY : Aside0 (HeadAt w_ g7 no (zeros 16) (zeros 8)) := ⟨hx_⟩; clear hx_ ho_; have cHX_n := cell_no HX.out; have cHY_n := cell_no HY.out)))
  clear cHX_n cHY_n
  go_loopw [8] (fun v8 wr => ∃ i : Nat, i ≤ 16 ∧ i ≤ l1.length ∧ v8 = .int .i64 i ∧ Aside0 (Below w.heap.size w wr) ∧ Aside0 (HeadAt wr g6 0 (zeros 16) (zeros 8)) ∧ Aside0 (HeadAt wr g7 no (pad 16 l1 i) (pad 8 l2 0))) (fun v8 _ => 16 - (intOf v8).toNat)
  case atStart => exact ⟨0, by omega, by omega, rfl, HB, HX, ⟨(by have z_ := HY.out; rwa [← pad_zero 16 l1, ← pad_zero 8 l2] at z_)⟩⟩
  case round =>
    clear HB HX HY
    obtain ⟨i, hi, hi2, rfl, HB, HX, HY⟩ := hrel
    have HM := Aside0.mk (pad_maps (l2 := l2) hi hi2 (Nat.zero_le 8) (Nat.zero_le _))
    by_cases hlt : i < 16
    · have b1 : decide ((i : Int) < 16) = true := decide_eq_true (by omega)
      by_cases hl : i < l1.length
      · have b2 : decide ((i : Int) < (l1.length : Int)) = true := decide_eq_true (by omega)
        obtain ⟨ad, e1, hx⟩ := Kd.at_int (Kd.C_below HR1.out HB.out) (i : Int) (by omega) (by omega)
        subst e1
        rw [Int.toNat_natCast] at hx
        have cHX_n := cell_no HX.out
        have cHY_n := cell_no HY.out
        have cb := cell_bl HY.out HM.out i hlt
        have fb := blk_frozen HY.out (1 + i)
        go_wp2
        have yHB := below_set (j := (1 + i)) (v := .int .u8 (rd l1 (i : Int))) HB.out GE_HY.out
        have yHX := blk_far (p := ⟨g7, (1 + i), none⟩) HX.out NE_HX_HY.out (.int .u8 (rd l1 (i : Int)))
        have yHY := put_pad1 HY.out hlt hl (Nat.zero_le _) (Nat.zero_le _)
        go_roundw
        case rel => exact ⟨i + 1, by omega, by omega, by go_num, ⟨yHB⟩, ⟨yHX⟩, ⟨yHY⟩⟩
        case measure => simp [intOf]; omega
      · have b2 : decide ((i : Int) < (l1.length : Int)) = false := decide_eq_false (by omega)
        obtain rfl : i = min 16 l1.length := by omega
        go_wp2
        go_loopw [9] (fun v9 wr => ∃ k : Nat, k ≤ 8 ∧ k ≤ l2.length ∧ v9 = .int .i64 k ∧ Aside0 (Below w.heap.size w wr) ∧ Aside0 (HeadAt wr g6 0 (zeros 16) (zeros 8)) ∧ Aside0 (HeadAt wr g7 no (pad 16 l1 (min 16 l1.length)) (pad 8 l2 k))) (fun v9 _ => 8 - (intOf v9).toNat)
        case atStart => exact ⟨0, by omega, by omega, rfl, HB, HX, HY⟩
        case round =>
          clear HB HX HY
          obtain ⟨k, hk, hk2, rfl, HB, HX, HY⟩ := hrel
          have HM := Aside0.mk (pad_maps (Nat.min_le_left 16 l1.length) (Nat.min_le_right 16 l1.length) hk hk2)
          by_cases hlt : k < 8
          · have b1 : decide ((k : Int) < 8) = true := decide_eq_true (by omega)
            by_cases hl : k < l2.length
            · have b2 : decide ((k : Int) < (l2.length : Int)) = true := decide_eq_true (by omega)
              obtain ⟨ad, e1, hx⟩ := Kd.at_int (Kd.C_below HR2.out HB.out) (k : Int) (by omega) (by omega)
              subst e1
              rw [Int.toNat_natCast] at hx
              have cHX_n := cell_no HX.out
              have cHY_n := cell_no HY.out
              have cb := cell_sl HY.out HM.out k hlt
              have fb := blk_frozen HY.out (17 + k)
              go_wp2
              have yHB := below_set (j := (17 + k)) (v := .int .u8 (rd l2 (k : Int))) HB.out GE_HY.out
              have yHX := blk_far (p := ⟨g7, (17 + k), none⟩) HX.out NE_HX_HY.out (.int .u8 (rd l2 (k : Int)))
              have yHY := put_pad2 HY.out (Nat.min_le_left _ _) (Nat.min_le_right _ _) hlt hl
              go_roundw
              case rel => exact ⟨k + 1, by omega, by omega, by go_num, ⟨yHB⟩, ⟨yHX⟩, ⟨yHY⟩⟩
              case measure => simp [intOf]; omega
            · have b2 : decide ((k : Int) < (l2.length : Int)) = false := decide_eq_false (by omega)
              have HK_ := Aside0.mk (show k = min 8 l2.length by omega)
              have HY2 : Aside0 (HeadAt wr g7 no (padF 16 l1) (padF 8 l2)) := ⟨by rw [padF, padF, ← HK_.out]; exact HY.out⟩
              clear HY
              have HY := HY2
              clear HY2
              have cHX_n := cell_no HX.out
              have cHY_n := cell_no HY.out
              go_wp2_with (first
                  | ((with_reducible refine gate_dst (N := 46) rfl ?_); go_loud (refine wl_head ?hw (.tmp 7) ?ho ?hx HY.out HMF.out ?_; (case hw => first | rfl | (go_simp; done)); (case ho => rfl); (case hx => rfl)))
                  | ((refine gate_store (t := 28) (p := 6) rfl ?_); go_loud (refine store_all (P := Try.prog) (t := 28) (p := 6) (v := .tmp 46) ?hgd ?hN ?ho g6 (headC no (padF 16 l1) (padF 8 l2)) ?hx ?hy _ _ HX.out (hi_head HMF.out) (hold_head HZ.out HMF.out) (head_one _ _ _) w.heap.size w HB.out GE_HX.out ?_; (case hgd => rfl); (case hN => rfl); (case ho => rfl); (case hx => rfl); (case hy => rfl); intro w_ hx_ ho_ hb_; clear cHX_n cHY_n; replace HY := Aside0.mk (HeadAt.other HY.out ho_ (Ne.symm NE_HX_HY.out)); clear HB; have HB := Aside0.mk hb_; clear hb_; clear HX; have HX : Aside0 (HeadAt w_ g6 no (padF 16 l1) (padF 8 l2)) := ⟨hx_⟩; clear hx_ ho_; have cHX_n := cell_no HX.out; have cHY_n := cell_no HY.out)))
              refine bodyPost_ret (ret_head rfl _ _ g6 rfl HX.out HMF.out) rfl ?_
              exact ⟨rfl, HB.out⟩
          · have b1 : decide ((k : Int) < 8) = false := decide_eq_false (by omega)
            have HK_ := Aside0.mk (show k = min 8 l2.length by omega)
            have HY2 : Aside0 (HeadAt wr g7 no (padF 16 l1) (padF 8 l2)) := ⟨by rw [padF, padF, ← HK_.out]; exact HY.out⟩
            clear HY
            have HY := HY2
            clear HY2
            have cHX_n := cell_no HX.out
            have cHY_n := cell_no HY.out
            go_wp2_with (first
                | ((with_reducible refine gate_dst (N := 46) rfl ?_); go_loud (refine wl_head ?hw (.tmp 7) ?ho ?hx HY.out HMF.out ?_; (case hw => first | rfl | (go_simp; done)); (case ho => rfl); (case hx => rfl)))
                | ((refine gate_store (t := 28) (p := 6) rfl ?_); go_loud (refine store_all (P := Try.prog) (t := 28) (p := 6) (v := .tmp 46) ?hgd ?hN ?ho g6 (headC no (padF 16 l1) (padF 8 l2)) ?hx ?hy _ _ HX.out (hi_head HMF.out) (hold_head HZ.out HMF.out) (head_one _ _ _) w.heap.size w HB.out GE_HX.out ?_; (case hgd => rfl); (case hN => rfl); (case ho => rfl); (case hx => rfl); (case hy => rfl); intro w_ hx_ ho_ hb_; clear cHX_n cHY_n; replace HY := Aside0.mk (HeadAt.other HY.out ho_ (Ne.symm NE_HX_HY.out)); clear HB; have HB := Aside0.mk hb_; clear hb_; clear HX; have HX : Aside0 (HeadAt w_ g6 no (padF 16 l1) (padF 8 l2)) := ⟨hx_⟩; clear hx_ ho_; have cHX_n := cell_no HX.out; have cHY_n := cell_no HY.out)))
            refine bodyPost_ret (ret_head rfl _ _ g6 rfl HX.out HMF.out) rfl ?_
            exact ⟨rfl, HB.out⟩
    · have b1 : decide ((i : Int) < 16) = false := decide_eq_false (by omega)
      obtain rfl : i = min 16 l1.length := by omega
      go_wp2
      go_loopw [9] (fun v9 wr => ∃ k : Nat, k ≤ 8 ∧ k ≤ l2.length ∧ v9 = .int .i64 k ∧ Aside0 (Below w.heap.size w wr) ∧ Aside0 (HeadAt wr g6 0 (zeros 16) (zeros 8)) ∧ Aside0 (HeadAt wr g7 no (pad 16 l1 (min 16 l1.length)) (pad 8 l2 k))) (fun v9 _ => 8 - (intOf v9).toNat)
      case atStart => exact ⟨0, by omega, by omega, rfl, HB, HX, HY⟩
      case round =>
        clear HB HX HY
        obtain ⟨k, hk, hk2, rfl, HB, HX, HY⟩ := hrel
        have HM := Aside0.mk (pad_maps (Nat.min_le_left 16 l1.length) (Nat.min_le_right 16 l1.length) hk hk2)
        by_cases hlt : k < 8
        · have b1 : decide ((k : Int) < 8) = true := decide_eq_true (by omega)
          by_cases hl : k < l2.length
          · have b2 : decide ((k : Int) < (l2.length : Int)) = true := decide_eq_true (by omega)
            obtain ⟨ad, e1, hx⟩ := Kd.at_int (Kd.C_below HR2.out HB.out) (k : Int) (by omega) (by omega)
            subst e1
            rw [Int.toNat_natCast] at hx
            have cHX_n := cell_no HX.out
            have cHY_n := cell_no HY.out
            have cb := cell_sl HY.out HM.out k hlt
            have fb := blk_frozen HY.out (17 + k)
            go_wp2
            have yHB := below_set (j := (17 + k)) (v := .int .u8 (rd l2 (k : Int))) HB.out GE_HY.out
            have yHX := blk_far (p := ⟨g7, (17 + k), none⟩) HX.out NE_HX_HY.out (.int .u8 (rd l2 (k : Int)))
            have yHY := put_pad2 HY.out (Nat.min_le_left _ _) (Nat.min_le_right _ _) hlt hl
            go_roundw
            case rel => exact ⟨k + 1, by omega, by omega, by go_num, ⟨yHB⟩, ⟨yHX⟩, ⟨yHY⟩⟩
            case measure => simp [intOf]; omega
          · have b2 : decide ((k : Int) < (l2.length : Int)) = false := decide_eq_false (by omega)
            have HK_ := Aside0.mk (show k = min 8 l2.length by omega)
            have HY2 : Aside0 (HeadAt wr g7 no (padF 16 l1) (padF 8 l2)) := ⟨by rw [padF, padF, ← HK_.out]; exact HY.out⟩
            clear HY
            have HY := HY2
            clear HY2
            have cHX_n := cell_no HX.out
            have cHY_n := cell_no HY.out
            go_wp2_with (first
                | ((with_reducible refine gate_dst (N := 46) rfl ?_); go_loud (refine wl_head ?hw (.tmp 7) ?ho ?hx HY.out HMF.out ?_; (case hw => first | rfl | (go_simp; done)); (case ho => rfl); (case hx => rfl)))
                | ((refine gate_store (t := 28) (p := 6) rfl ?_); go_loud (refine store_all (P := Try.prog) (t := 28) (p := 6) (v := .tmp 46) ?hgd ?hN ?ho g6 (headC no (padF 16 l1) (padF 8 l2)) ?hx ?hy _ _ HX.out (hi_head HMF.out) (hold_head HZ.out HMF.out) (head_one _ _ _) w.heap.size w HB.out GE_HX.out ?_; (case hgd => rfl); (case hN => rfl); (case ho => rfl); (case hx => rfl); (case hy => rfl); intro w_ hx_ ho_ hb_; clear cHX_n cHY_n; replace HY := Aside0.mk (HeadAt.other HY.out ho_ (Ne.symm NE_HX_HY.out)); clear HB; have HB := Aside0.mk hb_; clear hb_; clear HX; have HX : Aside0 (HeadAt w_ g6 no (padF 16 l1) (padF 8 l2)) := ⟨hx_⟩; clear hx_ ho_; have cHX_n := cell_no HX.out; have cHY_n := cell_no HY.out)))
            refine bodyPost_ret (ret_head rfl _ _ g6 rfl HX.out HMF.out) rfl ?_
            exact ⟨rfl, HB.out⟩
        · have b1 : decide ((k : Int) < 8) = false := decide_eq_false (by omega)
          have HK_ := Aside0.mk (show k = min 8 l2.length by omega)
          have HY2 : Aside0 (HeadAt wr g7 no (padF 16 l1) (padF 8 l2)) := ⟨by rw [padF, padF, ← HK_.out]; exact HY.out⟩
          clear HY
          have HY := HY2
          clear HY2
          have cHX_n := cell_no HX.out
          have cHY_n := cell_no HY.out
          go_wp2_with (first
              | ((with_reducible refine gate_dst (N := 46) rfl ?_); go_loud (refine wl_head ?hw (.tmp 7) ?ho ?hx HY.out HMF.out ?_; (case hw => first | rfl | (go_simp; done)); (case ho => rfl); (case hx => rfl)))
              | ((refine gate_store (t := 28) (p := 6) rfl ?_); go_loud (refine store_all (P := Try.prog) (t := 28) (p := 6) (v := .tmp 46) ?hgd ?hN ?ho g6 (headC no (padF 16 l1) (padF 8 l2)) ?hx ?hy _ _ HX.out (hi_head HMF.out) (hold_head HZ.out HMF.out) (head_one _ _ _) w.heap.size w HB.out GE_HX.out ?_; (case hgd => rfl); (case hN => rfl); (case ho => rfl); (case hx => rfl); (case hy => rfl); intro w_ hx_ ho_ hb_; clear cHX_n cHY_n; replace HY := Aside0.mk (HeadAt.other HY.out ho_ (Ne.symm NE_HX_HY.out)); clear HB; have HB := Aside0.mk hb_; clear hb_; clear HX; have HX : Aside0 (HeadAt w_ g6 no (padF 16 l1) (padF 8 l2)) := ⟨hx_⟩; clear hx_ ho_; have cHX_n := cell_no HX.out; have cHY_n := cell_no HY.out)))
          refine bodyPost_ret (ret_head rfl _ _ g6 rfl HX.out HMF.out) rfl ?_
          exact ⟨rfl, HB.out⟩
end Go.Proofs.Ytonkgfgciegknaa.P