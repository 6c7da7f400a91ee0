/-
image.Rows, walked by hand.
Conditions: none.
-/
import Derived.Test.YtnlneiiccoakjaaImgLast
import Derived.Deep.CutBlock
import Derived.Deep.DeepCutAuto
namespace Go.Proofs.Ytnlneiiccoakjaa.P
open Go.RowKit Go.Proofs.YtnlneiiccoakjaaW.PrintWords Go.Proofs.YtnlneiiccoakjaaW.PrintLast Go.Proofs.YtnlneiiccoakjaaW.PrintMore
attribute [local go_sem] max2_int min2_int max_two min_two max_three min_three max_four min_four
set_option linter.unusedVariables false
set_option linter.unusedSimpArgs false
open Go.Proofs.Ytnlneiiccoakjaa.Num
def lenOf : Value → Nat
  | .slice _ n _ => n
  | _ => 0
theorem take_cap (A : Option Addr) (n c : Nat) (h : 256 ≤ n) (hc : n ≤ c) (W : World) : (Instr.slice 22 (.slice A n c) none (some (.int .i64 256)) (some (.int .i64 256))).run Try.prog W = .ok (.slice A 256 256) W := by
  obtain ⟨i0, hi, _, hsz, _⟩ := info_parts info5
  have hel : Try.prog.elem 22 = 5 := by simp [Program.elem, Try.underlying22]
  have hu : Try.prog.underlying 22 = some (.slice (Try.prog.elem 22)) := by rw [hel]; exact Try.underlying22
  have ha : (A.map fun x => x.add 0) = A := by cases A <;> simp [Addr.add]
  rw [run_slice_hm W 22 A n c hu .i64 .i64 256 256 (by decide) (by decide) (by omega), hel]
  simp [sizeOf, typeInfo, hi, hsz, sliced, Result.andThen, ha]
theorem drop_cap (A : Option Addr) (xs : List Int) (c : Nat) (h : 256 ≤ xs.length) (hc : xs.length ≤ c) :
    ∃ A' : Option Addr, (∀ W : World, (Instr.slice 22 (.slice A xs.length c) (some (.int .i64 256)) none none).run Try.prog W = .ok (.slice A' (xs.length - 256) (c - 256)) W) ∧
      (∀ w : World, (Kd.int .u8).C w A xs.length xs → (Kd.int .u8).C w A' (xs.drop 256).length (xs.drop 256)) := by
  obtain ⟨i0, hi, _, hsz, _⟩ := info_parts info5
  obtain ⟨A', h1, h2, _⟩ := print_drop_of (P := Try.prog) (Value.int .u8) (0 : Int) 22 5 .i64 Try.underlying22 hi hsz A c xs 256 (by decide) (by omega) hc
  refine ⟨A', fun W => ?_, fun w hr => Kd.C_of_reads (h1 := fun _ => rfl) (h2 w (Kd.reads_of_C hr))⟩
  have := h1 W
  rw [List.length_drop] at this
  exact this
theorem take_reads {A : Option Addr} {xs : List Int} {w : World} (n : Nat) (h : (Kd.int .u8).C w A xs.length xs) (hn : n ≤ xs.length) : (Kd.int .u8).C w A (xs.take n).length (xs.take n) := by
  have := (Kd.reads_of_C (d := (0 : Int)) h).take_ n hn
  rw [show (xs.take n).length = n from by rw [List.length_take]; omega]
  exact Kd.C_of_reads (h1 := fun _ => rfl) this
theorem slice_of {e : Nat} {w : World} {base : Nat} {ok : Nat → Prop} {v : Value} {xs : List Int} (h : (Kd.int .u8).R e w base ok v xs) : ∃ A n c, v = .slice A n c := by
  obtain ⟨A, c, he⟩ := Kd.R_slice h
  exact ⟨A, _, c, he⟩
theorem drawn_below {w w' : World} (h : Drawn0 w w') : Below w.heap.size w w' := by
  obtain ⟨n, rfl⟩ := h
  exact pw_below_drewN (Below.refl _ _) n
set_option maxHeartbeats 16000000 in
set_option maxRecDepth 100000 in
theorem image_Rows.calls (A0 : Option Addr) (c0 : Nat) (l0 : List Int) (r1 : List S41) (r2 : Int) (w : World) (hr0 : Kd.C (Kd.int .u8) w A0 l0.length l0) (hc0 : l0.length ≤ c0) (h : image_Rows.f l0 = some (r1, r2)) :
    Calls Try.prog 9 #[.slice A0 l0.length c0] w fun e w' => ∃ v0_ : Value, e = .returned (.tuple #[v0_, .int .i64 r2]) ∧ Kd.R k41 41 w' w.heap.size (fun _ => True) v0_ r1 ∧ Below w.heap.size w w' := by
  unfold image_Rows.f at h
  split at h
  case isFalse => exact absurd h (by simp)
  rename_i hbb
  have hbytes := bytesB_iff.mp hbb
  have h := Option.some.inj h
  unfold rowsP at h
  have HB := Aside0.mk (Below.refl w.heap.size w)
  by_cases hd : diskB l0 = true
  case neg =>
    rw [if_neg hd] at h
    injection h with h1 h2
    subst h1
    subst h2
    have hd' : l0.length = 0 ∨ (l0.length ≠ 0 ∧ l0.length % 256 ≠ 0) ∨ (l0.length ≠ 0 ∧ l0.length % 256 = 0 ∧ 1048576 < l0.length) := by
      unfold diskB at hd
      rw [decide_eq_true_eq] at hd
      omega
    generalize l0.length = n at hd' hc0 ⊢
    clear hr0 hbb hbytes hd
    go_enter Try.func9, Try.ntmps9
    rcases hd' with h1 | ⟨h1, h2⟩ | ⟨h1, h2, h3⟩
    · subst h1
      go_wp2
      go_ret2
      exact ⟨_, rfl, Kd.R_nil _ _ _ _ _, HB.out⟩
    · have e1 : ((n : Int) == 0) = false := beq_eq_false_iff_ne.mpr (by omega)
      have e2 : (Int.tmod (n : Int) 256 != 0) = true := bne_iff_ne.mpr (by rw [Int.tmod_eq_emod_of_nonneg (by omega)]; omega)
      have e4 : ¬ (n : Int) % 256 = 0 := by omega
      go_wp2
      go_ret2
      exact ⟨_, rfl, Kd.R_nil _ _ _ _ _, HB.out⟩
    · have e1 : ((n : Int) == 0) = false := beq_eq_false_iff_ne.mpr (by omega)
      have e2 : (Int.tmod (n : Int) 256 != 0) = false := bne_eq_false_iff_eq.mpr (by rw [Int.tmod_eq_emod_of_nonneg (by omega)]; omega)
      have e3 : 1048576 < (n : Int) := by omega
      have e4 : (n : Int) % 256 = 0 := by omega
      go_wp2
      go_ret2
      exact ⟨_, rfl, Kd.R_nil _ _ _ _ _, HB.out⟩
  rw [if_pos hd] at h
  injection h with h1 h2
  subst h1
  subst h2
  have hd' : l0.length ≠ 0 ∧ l0.length % 256 = 0 ∧ l0.length ≤ 1048576 := of_decide_eq_true hd
  have e1 : ((l0.length : Int) == 0) = false := beq_eq_false_iff_ne.mpr (by omega)
  have e2 : (Int.tmod (l0.length : Int) 256 != 0) = false := bne_eq_false_iff_eq.mpr (by rw [Int.tmod_eq_emod_of_nonneg (by omega)]; omega)
  have e3 : ¬ 1048576 < (l0.length : Int) := by omega
  have e4 : (l0.length : Int) % 256 = 0 := by omega
  have HR0 := Aside0.mk hr0
  have HC0 := Aside0.mk hc0
  have HBY := Aside0.mk hbytes
  have HD := Aside0.mk hd'
  clear hr0 hc0 hbytes hd' hbb hd
  go_enter Try.func9, Try.ntmps9
  go_wp2
  clear e1 e2 e3 e4
  go_loopw [0, 4, 5] (fun v0 v4 v5 wr => ∃ (i : Nat) (A : Option Addr) (c : Nat) (xs : List Int) (A5 : Option Addr) (c5 : Nat) (ys : List Int), i ≤ l0.length / 256 ∧ v0 = .slice A xs.length c ∧ v5 = .slice A5 ys.length c5 ∧ Aside0 (xs = l0.drop (256 * i) ∧ ys = aheadN l0 i) ∧
      Aside0 ((Kd.int .u8).C w A xs.length xs ∧ xs.length ≤ c) ∧ Aside0 ((Kd.int .u8).C w A5 ys.length ys ∧ ys.length ≤ c5) ∧ Aside0 (RowsAt wr w.heap.size v4 (rowsN l0 i)) ∧ Aside0 (Below w.heap.size w wr)) (fun v0 _ _ _ => lenOf v0)
  case atStart => exact ⟨0, A0, c0, l0, none, 0, [], by omega, rfl, rfl, ⟨by simp, rfl⟩, ⟨HR0.out, HC0.out⟩, ⟨Kd.C_nil _ _, Nat.le_refl _⟩, ⟨.inl ⟨rfl, rfl⟩⟩, HB⟩
  case round =>
    clear HB
    obtain ⟨i, A, c, xs, A5, c5, ys, hi, rfl, rfl, HXY, HX, HY, HR4, HB⟩ := hrel
    have HXL : Aside0 (xs.length = l0.length - 256 * i) := ⟨by rw [HXY.out.1, List.length_drop]⟩
    by_cases hin : i < l0.length / 256
    · have h256 : 256 * i + 256 ≤ l0.length := by have := HD.out; omega
      have hx2 : 256 ≤ xs.length := by have := HXL.out; omega
      have hcc : 256 ≤ (c : Int) := by have := HX.out.2; omega
      have hx1 : 0 < xs.length := by omega
      have hcut := take_cap A xs.length c hx2 HX.out.2
      obtain ⟨A', hcut2, hC2⟩ := drop_cap A xs c hx2 HX.out.2
      have HX2 := Aside0.mk (hC2 w HX.out.1)
      obtain ⟨x, hx⟩ : ∃ x, x = chunk l0 i := ⟨_, rfl⟩
      have hxt : xs.take 256 = x := by rw [hx, HXY.out.1]; rfl
      have hx256 : x.length = 256 := by rw [hx]; exact chunk_length h256
      have HCX : Aside0 ((Kd.int .u8).C w A x.length x) := ⟨by rw [← hxt]; exact take_reads 256 HX.out.1 hx2⟩
      obtain ⟨kd, hkd⟩ : ∃ kd, kd = kindN l0 i := ⟨_, rfl⟩
      have hk : image_kind.f 257 x ys = some kd := by
        rw [hkd, hx, HXY.out.2]
        exact kind_eq 257 _ _ (chunk_bytes HBY.out i) (chunk_le _ _) (by decide)
      have cK : Aside0 (∀ w' : World, Below w.heap.size w w' → Calls Try.prog 25 #[.slice A 256 256, .slice A5 ys.length c5] w' fun e w'' => e = .returned (.int .i64 kd) ∧ Below w'.heap.size w' w'') := ⟨fun w' hb => by
        have q := image_kind.calls 257 A 256 x A5 c5 ys kd w' (Kd.C_below HCX.out hb) (by omega) (Kd.C_below HY.out.1 hb) HY.out.2 hk
        rw [hx256] at q
        exact q.mono fun e w'' hq => ⟨hq.1, drawn_below hq.2⟩⟩
      obtain ⟨L, hL⟩ : ∃ L, L = rowsN l0 i := ⟨_, rfl⟩
      rw [← hL] at HR4
      have HLO : Aside0 (L.length ≤ i ∧ ∀ y ∈ L, 0 ≤ y.f1 ∧ y.f1 ≤ i ∧ y.f2.length ≤ 256 * i) := ⟨by rw [hL]; exact rowsN_ok l0 i⟩
      have HST : Aside0 (rowsN l0 (i + 1) = stepR L kd x) := ⟨by rw [hL, hkd, hx]; rfl⟩
      obtain ⟨B4, c4, e4⟩ := Kd.R_slice HR4.out.R
      subst e4
      have HK := Aside0.mk (⟨hkd, hx, hx256, h256⟩ : kd = kindN l0 i ∧ x = chunk l0 i ∧ x.length = 256 ∧ 256 * i + 256 ≤ l0.length)
      clear hkd hx hk hxt hL hC2
      go_upto_region 11 with (first
        | (go_at_call 25; go_loud ((with_reducible refine (cK.out _ HB.out).mono ?_); rintro e w_ ⟨rfl, hb⟩; have z_ := HR4.out.below hb; have zB := below_step HB.out hb; clear HR4 HB hb; have HR4 := Aside0.mk z_; have HB := Aside0.mk zB; clear z_ zB)))
      go_cut [48] (fun s48 wc => ∃ t : Bool, s48 = .bool t ∧ Aside0 ((t = true ∧ stepR L kd x = L ++ [⟨kd, 1, if kd = 1 then x else []⟩] ∧ ∃ inner, Raw wc w.heap.size (.slice B4 L.length c4) L inner) ∨
          (t = false ∧ ∃ zs y v2 inner g, L = zs ++ [y] ∧ y.f0 = kd ∧ B4 = some ⟨g, 0, none⟩ ∧ Last wc w.heap.size g c4 zs y v2 inner)) ∧ Aside0 (Below w.heap.size w wc))
      case first =>
        rcases HR4.out with ⟨hL, hv⟩ | ⟨zs, y, v2, inner, g, cap, hL, hv, hlast⟩
        · subst hL
          have e0 : ((([] : List S41).length : Int) == 0) = true := rfl
          rw [show ([] : List S41).length = 0 from rfl] at hv
          injection hv with hv1 hv2 hv3
          subst hv1
          subst hv3
          go_wp2
          go_meet
          case rel => exact ⟨true, rfl, ⟨.inl ⟨rfl, stepR_nil _ _, [], Raw.nil _ _⟩⟩, HB⟩
        · have hLl : L.length = zs.length + 1 := by rw [hL, List.length_append, List.length_singleton]
          injection hv with hv1 hv2 hv3
          subst hv1
          subst hv3
          have HL := Aside0.mk hlast
          have e0 : ((L.length : Int) == 0) = false := beq_eq_false_iff_ne.mpr (by omega)
          have hj : wrap64 ((L.length : Int) - 1) = (zs.length : Int) := by rw [w64 (by omega) (by have := HLO.out.1; have := HD.out; omega)]; omega
          have hjw : IntKind.i64.wrap ((L.length : Int) - 1) = (zs.length : Int) := (i64_w _).trans hj
          have hjm : zs.length < L.length := by omega
          have hc0 := hlast.cell0
          have HLL := Aside0.mk (⟨hL, hLl⟩ : L = zs ++ [y] ∧ L.length = zs.length + 1)
          clear hlast hL hLl hv2
          by_cases hy : y.f0 = kd
          · have hy1 : (y.f0 != kd) = false := bne_eq_false_iff_eq.mpr hy
            go_wp2
            go_meet
            case rel => exact ⟨false, rfl, ⟨.inr ⟨rfl, zs, y, v2, inner, g, HLL.out.1, hy, rfl, HL.out⟩⟩, HB⟩
          · have hy1 : (y.f0 != kd) = true := bne_iff_ne.mpr hy
            have hra := HL.out.raw
            rw [← HLL.out.1, ← HLL.out.2] at hra
            have HRA := Aside0.mk hra
            clear hra
            go_wp2
            go_meet
            case rel => exact ⟨true, rfl, ⟨.inl ⟨rfl, by rw [HLL.out.1, stepR_snoc, if_neg hy], _, HRA.out⟩⟩, HB⟩
      case rest =>
        clear HR4 HB
        obtain ⟨t, rfl, HT, HB⟩ := hcut
        go_upto_if 48 with fail
        go_cut [4] (fun s4 wc => ∃ zs y v2 inner g cap, s4 = .slice (some ⟨g, 0, none⟩) (zs.length + 1) cap ∧ Aside0 (stepR L kd x = zs ++ [⟨kd, y.f1 + 1, y.f2 ++ (if kd = 1 then x else [])⟩] ∧ y.f0 = kd ∧ 0 ≤ y.f1 ∧ y.f1 ≤ 4096 ∧ y.f2.length ≤ 1048576 ∧ zs.length ≤ 4096) ∧ Aside0 (Last wc w.heap.size g cap zs y v2 inner) ∧ Aside0 (Below w.heap.size w wc))
        case first =>
          rcases HT.out with ⟨ht, hst, inner, hra⟩ | ⟨ht, zs, y, v2, inner, g, hL, hy, hB, hlast⟩
          · subst ht
            have HRA := Aside0.mk hra
            have HS2 := Aside0.mk hst
            have HBL : Aside0 ((L.length + 1) * 40 ≤ 140737488355328 ∧ L.length ≤ 4096) := ⟨by have := HLO.out.1; have := HD.out; omega⟩
            clear hra hst HT
            go_wp2_with (first
              | ((with_reducible refine gate_builtin (b := .append) (xs := #[.tmp 49, .tmp 52]) rfl ?_); at_builtin; go_loud (refine print_append_cells (w0 := w) w.heap.size rfl (.tmp 49) (.tmp 52) 26 41 (.agg #[(.int .i64 0), (.int .i64 0), (.slice none 0 0)]) 3 40 rfl Try.underlying26 infoRow rfl (by decide) (by omega) (.slice B4 L.length c4) L.length inner [.int .i64 kd, .int .i64 0, .slice none 0 0] rfl rfl rfl ?h1 HRA.out.1 HB.out HB.out.size HBL.out.1 ?_; (case h1 => intro u hu; simp at hu; rcases hu with rfl | rfl | rfl <;> rfl); intro v1 w_ ho hb2 hg hat; obtain ⟨g, cap, e4, hlast⟩ := Raw.new HRA.out ho hg hat; subst e4; clear HB HRA; have HB := Aside0.mk hb2; have HL := Aside0.mk hlast; clear ho hb2 hg hat hlast)))
            go_meet
            case rel => exact ⟨L, ⟨kd, 0, []⟩, .slice none 0 0, inner, g, cap, rfl, ⟨by rw [HS2.out]; rfl, rfl, Int.le_refl 0, show (0 : Int) ≤ 4096 by decide, Nat.zero_le _, HBL.out.2⟩, HL, HB⟩
          · subst ht
            subst hB
            have HL := Aside0.mk hlast
            have HZ := Aside0.mk (⟨hL, hy⟩ : L = zs ++ [y] ∧ y.f0 = kd)
            clear hL hy HT hlast
            go_wp2
            go_meet
            case rel =>
              refine ⟨zs, y, v2, inner, g, c4, by rw [HZ.out.1, List.length_append, List.length_singleton], ⟨by rw [HZ.out.1, stepR_snoc, if_pos HZ.out.2], HZ.out.2, ?_⟩, HL, HB⟩
              have h1 := HLO.out.2 y (by rw [HZ.out.1]; simp)
              have h2 := HLO.out.1
              have h3 := HD.out
              rw [HZ.out.1, List.length_append] at h2
              exact ⟨by omega, by omega, by omega, by omega⟩
        case rest =>
          clear HT HB
          obtain ⟨zs, y, v2, inner, g, cap, rfl, HY4, HL, HB⟩ := hcut
          have hj : wrap64 (zs.length : Int) = (zs.length : Int) := w64 (by omega) (by have := HY4.out; omega)
          have hw : wrap64 (y.f1 + 1) = y.f1 + 1 := w64 (by have := HY4.out; omega) (by have := HY4.out; omega)
          have hc1 := HL.out.cell1
          have hf1 := HL.out.frozen (zs.length * 3 + 1)
          go_upto_if 67 with (first
            | ((refine gate_store (t := 3) (p := 65) rfl ?_); go_loud (refine store_event (t := 3) (p := 65) (v := .tmp 63) (w1 := wc.setCell ⟨g, zs.length * 3 + 1, none⟩ (.int .i64 (y.f1 + 1))) ?hg ?ho ?hn ?hr ?_; (case ho => rfl); (case hg => rfl); (case hn => rfl); (case hr => first | (go_simp; done) | (go_simp; rfl)); intro w_ hw_; have h1_ := HL.out.count (y.f1 + 1); have h2_ := below_set (j := zs.length * 3 + 1) (v := .int .i64 (y.f1 + 1)) HB.out HL.out.ge; rw [← hw_] at h1_ h2_; clear hw_ HL HB hc1 hf1; have HL := Aside0.mk h1_; have HB := Aside0.mk h2_; clear h1_ h2_)))
          clear hj hw
          have hc2 := HL.out.cell2
          by_cases hk1 : kd = 1
          · have hk2 : (kd == 1) = true := beq_iff_eq.mpr hk1
            go_wp2_with (first
              | ((with_reducible refine gate_builtin (b := .append) (xs := #[.tmp 72, .tmp 73]) rfl ?_); at_builtin; go_loud (refine Kd.R_append_row (Value.int .u8) (0 : Int) (w0 := w) w.heap.size rfl (.tmp 72) (.tmp 73) 22 5 (.int .u8 0) 1 rfl Try.underlying22 info5 rfl (by decide) v2 y.f2 x A 256 256 (fun k => k ≠ g) rfl rfl ?hf HL.out.dat ?hr HB.out HB.out.size ?hl ?_; (case hf => exact fun k hk e => by have := HL.out.lt; omega); (case hr => have q := Kd.C_below HCX.out HB.out; rw [HK.out.2.2.1] at q; exact q); (case hl => have := HY4.out; have := HK.out.2.2.1; omega); intro v3 w_ ho hb2 hg hat; obtain ⟨A3, n3, c3, e3⟩ := slice_of ho; subst e3; obtain ⟨own1, hlast⟩ := HL.out.grown ho hg hat; clear hc2; have hc2 : w_.cell? ⟨g, zs.length * 3 + 2, none⟩ = some v2 := own_end own1 HL.out.ilen; have hf2 := own1.frozenAt (zs.length * 3 + 2); clear HB HL; have HB := Aside0.mk hb2; have HL3 := Aside0.mk hlast; have HO1 := Aside0.mk own1; clear ho hb2 hg hat hlast own1))
              | ((refine gate_store (t := 22) (p := 76) rfl ?_); go_loud (refine store_event (t := 22) (p := 76) (v := .tmp 74) (w1 := w_.setCell ⟨g, zs.length * 3 + 2, none⟩ (.slice A3 n3 c3)) ?hg ?ho ?hn ?hr ?_; (case ho => rfl); (case hg => rfl); (case hn => rfl); (case hr => first | (go_simp; done) | (go_simp; rfl)); intro w2_ hw_; have h1_ := HL3.out; have h2_ := below_set (j := zs.length * 3 + 2) (v := .slice A3 n3 c3) HB.out HL3.out.ge; rw [← hw_] at h1_ h2_; clear hw_ HL3 HB HO1 hc2 hf2; have HL := Aside0.mk h1_; have HB := Aside0.mk h2_; clear h1_ h2_)))
            have HK1 : Aside0 ((⟨kd, y.f1 + 1, y.f2 ++ (if kd = 1 then x else [])⟩ : S41) = ⟨y.f0, y.f1 + 1, y.f2 ++ x⟩) := ⟨by rw [if_pos hk1, HY4.out.2.1]⟩
            go_roundw
            case rel =>
              refine ⟨i + 1, A', c - 256, xs.drop 256, A, 256, x, by have := HK.out.2.2.2; omega, by rw [List.length_drop], by rw [HK.out.2.2.1], ⟨by rw [HXY.out.1, List.drop_drop]; congr 1, HK.out.2.1⟩, ⟨HX2.out, by rw [List.length_drop]; have := HX.out.2; omega⟩, ⟨HCX.out, by rw [HK.out.2.2.1]; decide⟩, ⟨.inr ⟨zs, _, .slice A3 n3 c3, inner, g, cap, ?_, rfl, HL.out⟩⟩, HB⟩
              rw [HST.out, HY4.out.1, HK1.out]
            case measure =>
              simp only [lenOf]
              omega
          · have hk2 : (kd == 1) = false := beq_eq_false_iff_ne.mpr hk1
            go_wp2
            have HK1 : Aside0 ((⟨kd, y.f1 + 1, y.f2 ++ (if kd = 1 then x else [])⟩ : S41) = ⟨y.f0, y.f1 + 1, y.f2⟩) := ⟨by rw [if_neg hk1, HY4.out.2.1, List.append_nil]⟩
            go_roundw
            case rel =>
              refine ⟨i + 1, A', c - 256, xs.drop 256, A, 256, x, by have := HK.out.2.2.2; omega, by rw [List.length_drop], by rw [HK.out.2.2.1], ⟨by rw [HXY.out.1, List.drop_drop]; congr 1, HK.out.2.1⟩, ⟨HX2.out, by rw [List.length_drop]; have := HX.out.2; omega⟩, ⟨HCX.out, by rw [HK.out.2.2.1]; decide⟩, ⟨.inr ⟨zs, _, v2, inner, g, cap, ?_, rfl, HL.out⟩⟩, HB⟩
              rw [HST.out, HY4.out.1, HK1.out]
            case measure =>
              simp only [lenOf]
              omega
    · have hx1 : ¬ 0 < xs.length := by have := HD.out; have := HXL.out; omega
      have hie : i = l0.length / 256 := by omega
      go_wp2
      go_ret2
      exact ⟨_, rfl, by rw [← hie]; exact HR4.out.R, HB.out⟩
end Go.Proofs.Ytnlneiiccoakjaa.P
