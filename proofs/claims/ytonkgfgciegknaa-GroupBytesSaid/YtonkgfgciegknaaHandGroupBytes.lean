/-
The law GroupBytes, walked by hand.
Conditions: none.
-/
import Derived.Test.YtonkgfgciegknaaHandGroupLaw
import Derived.Test.YtonkgfgciegknaaHandGroupK
namespace Go.Proofs.Ytonkgfgciegknaa.P
open Go.RowKit Go.Proofs.YtonkgfgciegknaaW.PrintWords Go.Proofs.YtonkgfgciegknaaW.PrintLast Go.Proofs.YtonkgfgciegknaaW.PrintMore
abbrev tt : Bool := true
abbrev ff : Bool := false
attribute [local go_sem] max2_int min2_int max_two min_two max_three min_three max_four min_four
set_option linter.unusedVariables false
set_option linter.unusedSimpArgs false
def law06_Bytes.T10 : Bool × List (List Nat × List Nat) := (true, [([], []), ([0], [0]), ([], []), ([2], [2]), ([1, 3], [1, 3]), ([4], [4]), ([5], [5]), ([5], [5]), ([6, 7, 5], [5, 6, 7]), ([5, 8], [5, 8]), ([9, 5], [9]), ([10], [10]), ([10], [10]), ([10], [10]), ([10], [10]), ([11, 12, 13, 14, 10, 10], [10, 11, 12, 13, 14]), ([15, 10], [10, 15]), ([10, 16], [10, 16]), ([17, 15], [17]), ([18], [18]), ([18], [18]), ([18], [18]), ([18], [18]), ([19, 20, 21, 22, 18, 18], [18, 19, 20, 21, 22]), ([23, 18], [18, 23]), ([18, 24], [18, 24]), ([25, 23], [25]), ([26], [26]), ([26], [26]), ([27, 28, 26, 26], [26, 27, 28]), ([26], [26]), ([26], [26]), ([30, 31, 29, 26], [26, 30, 31]), ([29, 32, 26], [26, 29, 32]), ([26, 33], [26, 33]), ([34, 32], [34]), ([35], [35]), ([35], [35]), ([36, 37, 35, 35], [35, 36, 37]), ([38, 35], [35, 38]), ([35, 39], [35, 39])])
def law06_Bytes.B10 : List Nat := [0, 1, 0, 4, 15, 31, 63, 63, 255, 511, 1023, 2047, 2047, 2047, 2047, 32767, 65535, 131071, 262143, 524287, 524287, 524287, 524287, 8388607, 16777215, 33554431, 67108863, 134217727, 134217727, 536870911, 134217727, 134217727, 4294967295, 8589934591, 17179869183, 34359738367, 68719476735, 68719476735, 274877906943, 549755813887, 1099511627775]
theorem law06_Bytes.tab10 : rtab .any (opsOf Try.f3 10) = law06_Bytes.T10 := by kernel_rfl
theorem law06_Bytes.bits10 : waitsOk law06_Bytes.T10.2 law06_Bytes.B10 = true := by kernel_rfl
theorem eqAny (no : Int) (P1 P2 : List Int) : decide (no = no ∧ P1 = P1 ∧ P2 = P2) = true := decide_eq_true ⟨rfl, rfl, rfl⟩
def leveelaw06_GroupBytes.f (_a0 : Int) (_a1 : Int) (_a2 : Int) (_a3 : Int) (l2 l3 l4 : List Int) : Option Bool := if ((l2 ++ (l3 ++ l4)).all fun x => decide (0 ≤ x) && decide (x < 256)) = true ∧ l4.length ≤ 140737488355328 then some true else none
set_option maxHeartbeats 32000000 in
set_option maxRecDepth 100000 in
theorem leveelaw06_GroupBytes.calls (G I N no : Int) (A2 : Option Addr) (c2 : Nat) (l2 : List Int) (A3 : Option Addr) (c3 : Nat) (l3 : List Int) (A4 : Option Addr) (c4 : Nat) (l4 : List Int) (r : Bool) (w : World) (hr2 : Kd.C (Kd.int .u8) w A2 l2.length l2) (_hc2 : l2.length ≤ c2) (hr3 : Kd.C (Kd.int .u8) w A3 l3.length l3) (_hc3 : l3.length ≤ c3) (hr4 : Kd.C (Kd.int .u8) w A4 l4.length l4) (hc4 : l4.length ≤ c4) (h : leveelaw06_GroupBytes.f G I N no l2 l3 l4 = some r) :
    Calls Try.prog 3 #[.agg #[.int .i64 G, .int .i64 I, .int .i64 N], .int .i64 no, .slice A2 l2.length c2, .slice A3 l3.length c3, .slice A4 l4.length c4] w fun e w' => e = .returned (.bool r) ∧ Below w.heap.size w w' := by
  unfold leveelaw06_GroupBytes.f at h
  split at h
  case isFalse => exact absurd h (by simp)
  rename_i hh
  obtain rfl := Option.some.inj h
  clear h
  obtain ⟨hall, hl4⟩ := hh
  have hby : ∀ x, (x ∈ l2 ∨ x ∈ l3 ∨ x ∈ l4) → 0 ≤ x ∧ x < 256 := fun x hx => by
    have q := List.all_eq_true.mp hall x (by rcases hx with hx | hx | hx <;> simp [hx])
    simpa using q
  have hb2 : Bits.isBytes l2 := fun x hx => hby x (.inl hx)
  have hb3 : Bits.isBytes l3 := fun x hx => hby x (.inr (.inl hx))
  have hb4 : Bits.isBytes l4 := fun x hx => hby x (.inr (.inr hx))
  clear hall hby
  obtain ⟨P1, hP1⟩ : ∃ P1, padF 16 l2 = P1 := ⟨_, rfl⟩
  obtain ⟨P2, hP2⟩ : ∃ P2, padF 8 l3 = P2 := ⟨_, rfl⟩
  have HMM : Aside0 (HM P1 P2) := ⟨by rw [← hP1, ← hP2]; exact padF_HM hb2 hb3⟩
  have HM := Aside0.mk HMM.out.maps
  have cGiven : Aside0 (∀ w : World, Kd.C (Kd.int .u8) w A2 l2.length l2 → Kd.C (Kd.int .u8) w A3 l3.length l3 → Calls Try.prog 6 #[.int .i64 no, .slice A2 l2.length c2, .slice A3 l3.length c3] w fun e w' => e = .returned (headV no P1 P2) ∧ Below w.heap.size w w') := ⟨fun w k2 k3 => by have q := given_any no A2 c2 l2 A3 c3 l3 w k2 k3 hb2 hb3; rw [hP1, hP2] at q; exact q⟩
  obtain ⟨LX, EX, hPut⟩ : ∃ LX EX, putR G I N no P1 P2 = (LX, EX) := ⟨_, _, rfl⟩
  have cPut : Aside0 (∀ w : World, Calls Try.prog 8 #[.agg #[.int .i64 G, .int .i64 I, .int .i64 N], headV no P1 P2] w fun e w' => ∃ (A : Option Addr) (c : Nat), e = .returned (.tuple #[.slice A LX.length c, .int .i64 EX]) ∧ Row8 w' (.slice A LX.length c) LX ∧ Below w.heap.size w w') := ⟨fun w => by have q := gput_u G I N no P1 P2 w HMM.out; rw [hPut] at q; exact q⟩
  have cRPut : Aside0 (∀ (w : World) (A1 : Option Addr) (c1 : Nat) (A2 : Option Addr) (c2 : Nat), Row8 w (.slice A1 16 c1) P1 → Row8 w (.slice A2 8 c2) P2 → Calls Try.prog 9 #[.agg #[.int .i64 G, .int .i64 I, .int .i64 N], .agg #[.int .i64 no, .slice A1 16 c1, .slice A2 8 c2]] w fun e w' => ∃ (A : Option Addr) (c : Nat), e = .returned (.tuple #[.slice A LX.length c, .int .i64 EX]) ∧ Row8 w' (.slice A LX.length c) LX ∧ Below w.heap.size w w') := ⟨fun w A1 c1 A2 c2 k1 k2 => by have q := refPut_u G I N no P1 P2 A1 c1 A2 c2 w HMM.out k1 k2; rw [hPut] at q; exact q⟩
  obtain ⟨q1, q2, q3, q4, hq⟩ : ∃ q1 q2 q3 q4, getP G I N l4 = (q1, q2, q3, q4) := ⟨_, _, _, _, rfl⟩
  have HMQ : Aside0 (Maps q2 q3) := ⟨by have q := get_maps G I N l4; rw [hq] at q; exact q⟩
  have HZQ : Aside0 (ZeroOn (q1, q2, q3, q4)) := ⟨by have q := get_zero G I N l4; rw [hq] at q; exact q⟩
  have cGet : Aside0 (∀ (w : World) (A : Option Addr) (c : Nat), Kd.C (Kd.int .u8) w A l4.length l4 → l4.length ≤ c → Calls Try.prog 11 #[.agg #[.int .i64 G, .int .i64 I, .int .i64 N], .slice A l4.length c] w fun e w' => e = .returned (.tuple #[headV q1 q2 q3, .int .i64 q4]) ∧ Below w.heap.size w w') := ⟨fun w A c k kc => by have q := gget_any G I N A c l4 w k kc hb4; rw [hq] at q; exact q⟩
  have cRGet : Aside0 (∀ (w : World) (A : Option Addr) (c : Nat), Kd.C (Kd.int .u8) w A l4.length l4 → l4.length ≤ c → Calls Try.prog 12 #[.agg #[.int .i64 G, .int .i64 I, .int .i64 N], .slice A l4.length c] w fun e w' => ∃ (no' : Int) (A1 : Option Addr) (n1 c1 : Nat) (A2 : Option Addr) (n2 c2 : Nat), e = .returned (.tuple #[.agg #[.int .i64 no', .slice A1 n1 c1, .slice A2 n2 c2], .int .i64 q4]) ∧ RecOk w' (q1, q2, q3, q4) no' A1 n1 c1 A2 n2 c2 ∧ Below w.heap.size w w') := ⟨fun w A c k kc => by have q := refGet_u G I N A c l4 w k kc hb4; rw [hq] at q; exact q⟩
  obtain ⟨r1, r2, r3, r4, hf⟩ : ∃ r1 r2 r3 r4, freshP G I N no = (r1, r2, r3, r4) := ⟨_, _, _, _, rfl⟩
  have HMF : Aside0 (Maps r2 r3) := ⟨by have q := freshP_maps G I N no; rw [hf] at q; exact q⟩
  have HZF : Aside0 (ZeroOn (r1, r2, r3, r4)) := ⟨by have q := fresh_zero G I N no; rw [hf] at q; exact q⟩
  have cFresh : Aside0 (∀ w : World, Calls Try.prog 13 #[.agg #[.int .i64 G, .int .i64 I, .int .i64 N], .int .i64 no] w fun e w' => e = .returned (.tuple #[headV r1 r2 r3, .int .i64 r4]) ∧ Below w.heap.size w w') := ⟨fun w => by have q := fresh_u G I N no w; rw [hf] at q; exact q⟩
  have cRFresh : Aside0 (∀ w : World, Calls Try.prog 14 #[.agg #[.int .i64 G, .int .i64 I, .int .i64 N], .int .i64 no] w fun e w' => ∃ (no' : Int) (A1 : Option Addr) (n1 c1 : Nat) (A2 : Option Addr) (n2 c2 : Nat), e = .returned (.tuple #[.agg #[.int .i64 no', .slice A1 n1 c1, .slice A2 n2 c2], .int .i64 r4]) ∧ RecOk w' (r1, r2, r3, r4) no' A1 n1 c1 A2 n2 c2 ∧ Below w.heap.size w w') := ⟨fun w => by have q := refFresh_u G I N no w; rw [hf] at q; exact q⟩
  have cGet2 : Aside0 (EX = 0 → ∀ (w : World) (A : Option Addr) (c : Nat), Kd.C (Kd.int .u8) w A LX.length LX → LX.length ≤ c → Calls Try.prog 11 #[.agg #[.int .i64 G, .int .i64 I, .int .i64 N], .slice A LX.length c] w fun e w' => e = .returned (.tuple #[headV no P1 P2, .int .i64 0]) ∧ Below w.heap.size w w') := ⟨fun hE w A c k kc => by
    have hr : rightP G I N no P1 P2 = true := by
      by_cases hr : rightP G I N no P1 P2 = true
      · exact hr
      · unfold putR at hPut; rw [if_neg hr] at hPut; injection hPut with _ h2; omega
    have hX : LX = putL no (freeP G I N no P1 P2).1 (freeP G I N no P1 P2).2 P1 P2 := by
      unfold putR at hPut; rw [if_pos hr] at hPut; injection hPut with h1 _; exact h1.symm
    have q := gget_any G I N A c LX w k kc (by rw [hX]; exact putL_bytes HMM.out)
    have g := put_got G I N no P1 P2 HMM.out hr
    rw [← hX] at g
    rw [g] at q
    exact q⟩
  have HZ := Aside0.mk zeros_maps
  have HR2 := Aside0.mk hr2
  have HR3 := Aside0.mk hr3
  have HR4 := Aside0.mk hr4
  have HC4 := Aside0.mk hc4
  have HL4 := Aside0.mk hl4
  have HB := Aside0.mk (Below.refl w.heap.size w)
  clear hr2 hr3 hr4 hc4 hl4 hb2 hb3 hb4 hP1 hP2 hPut hq hf
  go_enter Try.func3, Try.ntmps3
  go_wp2_with (first
    | ((with_reducible refine gate_dst (N := 5) rfl ?_); go_loud (refine box_event ?hg (N := 5) ?hd (cs := ([.int .i64 G, .int .i64 I, .int .i64 N]).toArray) (t := 23) ?hr ?_; (case hd => rfl); (case hg => rfl); (case hr => first | kernel_rfl | (go_simp; done) | (go_simp; rfl)); intro g5 hg w_ hx hb; have GE_HG := Aside0.mk (show w.heap.size ≤ g5 by have := HB.out.size; omega); clear hg; replace HB := Aside0.mk (below_step HB.out hb); clear hb; have HG : Aside0 (w_.heap[g5]? = some (.cells #[.int .i64 G, .int .i64 I, .int .i64 N] 23 (0, 0))) := ⟨hx⟩; clear hx; have cHG_0 := c3_0 HG.out; have cHG_1 := c3_1 HG.out; have cHG_2 := c3_2 HG.out))
    | (go_at_call 6; go_loud ((with_reducible refine (cGiven.out _ (Kd.C_below HR2.out HB.out) (Kd.C_below HR3.out HB.out)).mono ?_); rintro e w_ ⟨rfl, hb⟩; clear cHG_0 cHG_1 cHG_2; replace HB := Aside0.mk (below_step HB.out hb); replace HG := Aside0.mk (blk_below HG.out hb); clear hb; have cHG_0 := c3_0 HG.out; have cHG_1 := c3_1 HG.out; have cHG_2 := c3_2 HG.out))
    | ((with_reducible refine gate_dst (N := 11) rfl ?_); go_loud (refine box_event ?hg (N := 11) ?hd (cs := (headC 0 (zeros 16) (zeros 8)).toArray) (t := 28) ?hr ?_; (case hd => rfl); (case hg => rfl); (case hr => kernel_rfl); intro g11 hg w_ hx hb; have NE_HG_HX := Aside0.mk (new_ne HG.out hg); have GE_HX := Aside0.mk (show w.heap.size ≤ g11 by have := HB.out.size; omega); clear hg; clear cHG_0 cHG_1 cHG_2; replace HB := Aside0.mk (below_step HB.out hb); replace HG := Aside0.mk (blk_below HG.out hb); clear hb; have HX : Aside0 (HeadAt w_ g11 0 (zeros 16) (zeros 8)) := ⟨hx⟩; clear hx; have cHG_0 := c3_0 HG.out; have cHG_1 := c3_1 HG.out; have cHG_2 := c3_2 HG.out; have cHX_n := cell_no HX.out))
    | ((refine gate_store (t := 28) (p := 11) rfl ?_); go_loud (refine store_all (P := Try.prog) (t := 28) (p := 11) (v := .tmp 31) ?hgd ?hN ?ho g11 (headC no P1 P2) ?hx ?hy _ _ HX.out (hi_head HM.out) (hold_head HZ.out HM.out) (head_one _ _ _) w.heap.size w HB.out GE_HX.out ?_; (case hgd => rfl); (case hN => rfl); (case ho => rfl); (case hx => rfl); (case hy => rfl); intro w_ hx_ ho_ hb_; clear cHG_0 cHG_1 cHG_2 cHX_n; replace HG := Aside0.mk ((ho_ _ NE_HG_HX.out).trans HG.out); clear HB; have HB := Aside0.mk hb_; clear hb_; clear HX; have HX : Aside0 (HeadAt w_ g11 no P1 P2) := ⟨hx_⟩; clear hx_ ho_; have cHG_0 := c3_0 HG.out; have cHG_1 := c3_1 HG.out; have cHG_2 := c3_2 HG.out; have cHX_n := cell_no HX.out))
    | ((with_reducible refine gate_dst (N := 32) rfl ?_); go_loud (refine wl_head ?hw (.tmp 11) ?ho ?hx HX.out HM.out ?_; (case hw => first | rfl | (go_simp; done)); (case ho => rfl); (case hx => rfl)))
    | (go_at_call 7; go_loud ((with_reducible refine (taken_any no P1 P2 _ HMM.out).mono ?_); rintro e w_ ⟨B1, d1, B2, d2, rfl, hr1, hr2, hb⟩; clear cHG_0 cHG_1 cHG_2 cHX_n; replace HB := Aside0.mk (below_step HB.out hb); replace HG := Aside0.mk (blk_below HG.out hb); replace HX := Aside0.mk (HeadAt.below HX.out hb); clear hb; have HV1 := Aside0.mk hr1; have HV2 := Aside0.mk hr2; clear hr1 hr2; have cHG_0 := c3_0 HG.out; have cHG_1 := c3_1 HG.out; have cHG_2 := c3_2 HG.out; have cHX_n := cell_no HX.out))
    | ((with_reducible refine gate_dst (N := 12) rfl ?_); go_loud (refine box_event ?hg (N := 12) ?hd (cs := ([.int .i64 0, .slice none 0 0, .slice none 0 0]).toArray) (t := 31) ?hr ?_; (case hd => rfl); (case hg => rfl); (case hr => first | kernel_rfl | (go_simp; done) | (go_simp; rfl)); intro g12 hg w_ hx hb; have NE_HG_HY := Aside0.mk (new_ne HG.out hg); have NE_HX_HY := Aside0.mk (new_ne HX.out hg); have GE_HY := Aside0.mk (show w.heap.size ≤ g12 by have := HB.out.size; omega); clear hg; clear cHG_0 cHG_1 cHG_2 cHX_n; replace HB := Aside0.mk (below_step HB.out hb); replace HG := Aside0.mk (blk_below HG.out hb); replace HX := Aside0.mk (HeadAt.below HX.out hb); replace HV1 := Aside0.mk (Row8.below HV1.out hb); replace HV2 := Aside0.mk (Row8.below HV2.out hb); clear hb; have HY : Aside0 (w_.heap[g12]? = some (.cells #[.int .i64 0, .slice none 0 0, .slice none 0 0] 31 (0, 0))) := ⟨hx⟩; clear hx; have cHG_0 := c3_0 HG.out; have cHG_1 := c3_1 HG.out; have cHG_2 := c3_2 HG.out; have cHX_n := cell_no HX.out; have cHY_0 := c3_0 HY.out; have cHY_1 := c3_1 HY.out; have cHY_2 := c3_2 HY.out))
    | ((refine gate_store (t := 31) (p := 12) rfl ?_); go_loud (refine store_all (P := Try.prog) (t := 31) (p := 12) (v := .tmp 33) ?hgd ?hN ?ho g12 ([.int .i64 no, .slice B1 16 d1, .slice B2 8 d2]) ?hx ?hy _ _ HY.out (info_rec) (rfl) (by intro v_ hv_; simp only [List.mem_cons, List.not_mem_nil, or_false] at hv_; rcases hv_ with rfl | rfl | rfl <;> rfl) w.heap.size w HB.out GE_HY.out ?_; (case hgd => rfl); (case hN => rfl); (case ho => rfl); (case hx => rfl); (case hy => rfl); intro w_ hx_ ho_ hb_; clear cHG_0 cHG_1 cHG_2 cHX_n cHY_0 cHY_1 cHY_2; replace HG := Aside0.mk ((ho_ _ NE_HG_HY.out).trans HG.out); replace HX := Aside0.mk (HeadAt.other HX.out ho_ NE_HX_HY.out); replace HV1 := Aside0.mk (Row8.other HV1.out HY.out (by decide) ho_); replace HV2 := Aside0.mk (Row8.other HV2.out HY.out (by decide) ho_); clear HB; have HB := Aside0.mk hb_; clear hb_; clear HY; have HY : Aside0 (w_.heap[g12]? = some (.cells #[.int .i64 no, .slice B1 16 d1, .slice B2 8 d2] 31 (0, 0))) := ⟨hx_⟩; clear hx_ ho_; have cHG_0 := c3_0 HG.out; have cHG_1 := c3_1 HG.out; have cHG_2 := c3_2 HG.out; have cHX_n := cell_no HX.out; have cHY_0 := c3_0 HY.out; have cHY_1 := c3_1 HY.out; have cHY_2 := c3_2 HY.out))
    | ((with_reducible refine gate_dst (N := 36) rfl ?_); go_loud (refine wl_head ?hw (.tmp 11) ?ho ?hx HX.out HM.out ?_; (case hw => first | rfl | (go_simp; done)); (case ho => rfl); (case hx => rfl)))
    | (go_at_call 8; go_loud ((with_reducible refine (cPut.out _).mono ?_); rintro e w_ ⟨X, cX, rfl, hr1, hb⟩; clear cHG_0 cHG_1 cHG_2 cHX_n cHY_0 cHY_1 cHY_2; replace HB := Aside0.mk (below_step HB.out hb); replace HG := Aside0.mk (blk_below HG.out hb); replace HX := Aside0.mk (HeadAt.below HX.out hb); replace HV1 := Aside0.mk (Row8.below HV1.out hb); replace HV2 := Aside0.mk (Row8.below HV2.out hb); replace HY := Aside0.mk (blk_below HY.out hb); clear hb; have HPX := Aside0.mk hr1; clear hr1; have cHG_0 := c3_0 HG.out; have cHG_1 := c3_1 HG.out; have cHG_2 := c3_2 HG.out; have cHX_n := cell_no HX.out; have cHY_0 := c3_0 HY.out; have cHY_1 := c3_1 HY.out; have cHY_2 := c3_2 HY.out))
    | (go_at_call 9; go_loud ((with_reducible refine (cRPut.out _ _ _ _ _ HV1.out HV2.out).mono ?_); rintro e w_ ⟨Y, cY, rfl, hr1, hb⟩; clear cHG_0 cHG_1 cHG_2 cHX_n cHY_0 cHY_1 cHY_2; replace HB := Aside0.mk (below_step HB.out hb); replace HG := Aside0.mk (blk_below HG.out hb); replace HX := Aside0.mk (HeadAt.below HX.out hb); replace HV1 := Aside0.mk (Row8.below HV1.out hb); replace HV2 := Aside0.mk (Row8.below HV2.out hb); replace HY := Aside0.mk (blk_below HY.out hb); replace HPX := Aside0.mk (Row8.below HPX.out hb); clear hb; have HPY := Aside0.mk hr1; clear hr1; have cHG_0 := c3_0 HG.out; have cHG_1 := c3_1 HG.out; have cHG_2 := c3_2 HG.out; have cHX_n := cell_no HX.out; have cHY_0 := c3_0 HY.out; have cHY_1 := c3_1 HY.out; have cHY_2 := c3_2 HY.out))
    | (go_at_call 10; go_loud ((with_reducible refine (lent_u A4 c4 l4 _ (Kd.C_below HR4.out HB.out) HC4.out HL4.out).mono ?_); rintro e w_ ⟨Lo, cL, rfl, hr1, hb⟩; clear cHG_0 cHG_1 cHG_2 cHX_n cHY_0 cHY_1 cHY_2; replace HB := Aside0.mk (below_step HB.out hb); replace HG := Aside0.mk (blk_below HG.out hb); replace HX := Aside0.mk (HeadAt.below HX.out hb); replace HV1 := Aside0.mk (Row8.below HV1.out hb); replace HV2 := Aside0.mk (Row8.below HV2.out hb); replace HY := Aside0.mk (blk_below HY.out hb); replace HPX := Aside0.mk (Row8.below HPX.out hb); replace HPY := Aside0.mk (Row8.below HPY.out hb); clear hb; have HLN := Aside0.mk hr1; clear hr1; have cHG_0 := c3_0 HG.out; have cHG_1 := c3_1 HG.out; have cHG_2 := c3_2 HG.out; have cHX_n := cell_no HX.out; have cHY_0 := c3_0 HY.out; have cHY_1 := c3_1 HY.out; have cHY_2 := c3_2 HY.out))
    | (go_at_call 11; go_loud ((with_reducible refine (cGet.out _ _ _ HLN.out.C HLN.out.le).mono ?_); rintro e w_ ⟨rfl, hb⟩; clear cHG_0 cHG_1 cHG_2 cHX_n cHY_0 cHY_1 cHY_2; replace HB := Aside0.mk (below_step HB.out hb); replace HG := Aside0.mk (blk_below HG.out hb); replace HX := Aside0.mk (HeadAt.below HX.out hb); replace HV1 := Aside0.mk (Row8.below HV1.out hb); replace HV2 := Aside0.mk (Row8.below HV2.out hb); replace HY := Aside0.mk (blk_below HY.out hb); replace HPX := Aside0.mk (Row8.below HPX.out hb); replace HPY := Aside0.mk (Row8.below HPY.out hb); replace HLN := Aside0.mk (LentAt.below HLN.out hb); clear hb; have cHG_0 := c3_0 HG.out; have cHG_1 := c3_1 HG.out; have cHG_2 := c3_2 HG.out; have cHX_n := cell_no HX.out; have cHY_0 := c3_0 HY.out; have cHY_1 := c3_1 HY.out; have cHY_2 := c3_2 HY.out))
    | ((with_reducible refine gate_dst (N := 18) rfl ?_); go_loud (refine box_event ?hg (N := 18) ?hd (cs := (headC 0 (zeros 16) (zeros 8)).toArray) (t := 28) ?hr ?_; (case hd => rfl); (case hg => rfl); (case hr => kernel_rfl); intro g18 hg w_ hx hb; have NE_HG_HQ := Aside0.mk (new_ne HG.out hg); have NE_HX_HQ := Aside0.mk (new_ne HX.out hg); have NE_HY_HQ := Aside0.mk (new_ne HY.out hg); have GE_HQ := Aside0.mk (show w.heap.size ≤ g18 by have := HB.out.size; omega); clear hg; clear cHG_0 cHG_1 cHG_2 cHX_n cHY_0 cHY_1 cHY_2; replace HB := Aside0.mk (below_step HB.out hb); replace HG := Aside0.mk (blk_below HG.out hb); replace HX := Aside0.mk (HeadAt.below HX.out hb); replace HV1 := Aside0.mk (Row8.below HV1.out hb); replace HV2 := Aside0.mk (Row8.below HV2.out hb); replace HY := Aside0.mk (blk_below HY.out hb); replace HPX := Aside0.mk (Row8.below HPX.out hb); replace HPY := Aside0.mk (Row8.below HPY.out hb); replace HLN := Aside0.mk (LentAt.below HLN.out hb); clear hb; have HQ : Aside0 (HeadAt w_ g18 0 (zeros 16) (zeros 8)) := ⟨hx⟩; clear hx; have cHG_0 := c3_0 HG.out; have cHG_1 := c3_1 HG.out; have cHG_2 := c3_2 HG.out; have cHX_n := cell_no HX.out; have cHY_0 := c3_0 HY.out; have cHY_1 := c3_1 HY.out; have cHY_2 := c3_2 HY.out; have cHQ_n := cell_no HQ.out))
    | ((refine gate_store (t := 28) (p := 18) rfl ?_); go_loud (refine store_all (P := Try.prog) (t := 28) (p := 18) (v := .tmp 52) ?hgd ?hN ?ho g18 (headC q1 q2 q3) ?hx ?hy _ _ HQ.out (hi_head HMQ.out) (hold_head HZ.out HMQ.out) (head_one _ _ _) w.heap.size w HB.out GE_HQ.out ?_; (case hgd => rfl); (case hN => rfl); (case ho => rfl); (case hx => rfl); (case hy => rfl); intro w_ hx_ ho_ hb_; clear cHG_0 cHG_1 cHG_2 cHX_n cHY_0 cHY_1 cHY_2 cHQ_n; replace HG := Aside0.mk ((ho_ _ NE_HG_HQ.out).trans HG.out); replace HX := Aside0.mk (HeadAt.other HX.out ho_ NE_HX_HQ.out); replace HV1 := Aside0.mk (Row8.other HV1.out HQ.out (by decide) ho_); replace HV2 := Aside0.mk (Row8.other HV2.out HQ.out (by decide) ho_); replace HY := Aside0.mk ((ho_ _ NE_HY_HQ.out).trans HY.out); replace HPX := Aside0.mk (Row8.other HPX.out HQ.out (by decide) ho_); replace HPY := Aside0.mk (Row8.other HPY.out HQ.out (by decide) ho_); replace HLN := Aside0.mk (LentAt.other HLN.out HQ.out (by decide) ho_); clear HB; have HB := Aside0.mk hb_; clear hb_; clear HQ; have HQ : Aside0 (HeadAt w_ g18 q1 q2 q3) := ⟨hx_⟩; clear hx_ ho_; have cHG_0 := c3_0 HG.out; have cHG_1 := c3_1 HG.out; have cHG_2 := c3_2 HG.out; have cHX_n := cell_no HX.out; have cHY_0 := c3_0 HY.out; have cHY_1 := c3_1 HY.out; have cHY_2 := c3_2 HY.out; have cHQ_n := cell_no HQ.out))
    | (go_at_call 12; go_loud ((with_reducible refine (cRGet.out _ _ _ (Kd.C_below HR4.out HB.out) HC4.out).mono ?_); rintro e w_ ⟨no1, K1, m1, e1, K2, m2, e2, rfl, hr1, hb⟩; clear cHG_0 cHG_1 cHG_2 cHX_n cHY_0 cHY_1 cHY_2 cHQ_n; replace HB := Aside0.mk (below_step HB.out hb); replace HG := Aside0.mk (blk_below HG.out hb); replace HX := Aside0.mk (HeadAt.below HX.out hb); replace HV1 := Aside0.mk (Row8.below HV1.out hb); replace HV2 := Aside0.mk (Row8.below HV2.out hb); replace HY := Aside0.mk (blk_below HY.out hb); replace HPX := Aside0.mk (Row8.below HPX.out hb); replace HPY := Aside0.mk (Row8.below HPY.out hb); replace HLN := Aside0.mk (LentAt.below HLN.out hb); replace HQ := Aside0.mk (HeadAt.below HQ.out hb); clear hb; have HRQ := Aside0.mk hr1; clear hr1; have cHG_0 := c3_0 HG.out; have cHG_1 := c3_1 HG.out; have cHG_2 := c3_2 HG.out; have cHX_n := cell_no HX.out; have cHY_0 := c3_0 HY.out; have cHY_1 := c3_1 HY.out; have cHY_2 := c3_2 HY.out; have cHQ_n := cell_no HQ.out))
    | ((with_reducible refine gate_dst (N := 20) rfl ?_); go_loud (refine box_event ?hg (N := 20) ?hd (cs := ([.int .i64 0, .slice none 0 0, .slice none 0 0]).toArray) (t := 31) ?hr ?_; (case hd => rfl); (case hg => rfl); (case hr => first | kernel_rfl | (go_simp; done) | (go_simp; rfl)); intro g20 hg w_ hx hb; have NE_HG_HQ2 := Aside0.mk (new_ne HG.out hg); have NE_HX_HQ2 := Aside0.mk (new_ne HX.out hg); have NE_HY_HQ2 := Aside0.mk (new_ne HY.out hg); have NE_HQ_HQ2 := Aside0.mk (new_ne HQ.out hg); have GE_HQ2 := Aside0.mk (show w.heap.size ≤ g20 by have := HB.out.size; omega); clear hg; clear cHG_0 cHG_1 cHG_2 cHX_n cHY_0 cHY_1 cHY_2 cHQ_n; replace HB := Aside0.mk (below_step HB.out hb); replace HG := Aside0.mk (blk_below HG.out hb); replace HX := Aside0.mk (HeadAt.below HX.out hb); replace HV1 := Aside0.mk (Row8.below HV1.out hb); replace HV2 := Aside0.mk (Row8.below HV2.out hb); replace HY := Aside0.mk (blk_below HY.out hb); replace HPX := Aside0.mk (Row8.below HPX.out hb); replace HPY := Aside0.mk (Row8.below HPY.out hb); replace HLN := Aside0.mk (LentAt.below HLN.out hb); replace HQ := Aside0.mk (HeadAt.below HQ.out hb); replace HRQ := Aside0.mk (RecOk.below HRQ.out hb); clear hb; have HQ2 : Aside0 (w_.heap[g20]? = some (.cells #[.int .i64 0, .slice none 0 0, .slice none 0 0] 31 (0, 0))) := ⟨hx⟩; clear hx; have cHG_0 := c3_0 HG.out; have cHG_1 := c3_1 HG.out; have cHG_2 := c3_2 HG.out; have cHX_n := cell_no HX.out; have cHY_0 := c3_0 HY.out; have cHY_1 := c3_1 HY.out; have cHY_2 := c3_2 HY.out; have cHQ_n := cell_no HQ.out; have cHQ2_0 := c3_0 HQ2.out; have cHQ2_1 := c3_1 HQ2.out; have cHQ2_2 := c3_2 HQ2.out))
    | ((refine gate_store (t := 31) (p := 20) rfl ?_); go_loud (refine store_all (P := Try.prog) (t := 31) (p := 20) (v := .tmp 58) ?hgd ?hN ?ho g20 ([.int .i64 no1, .slice K1 m1 e1, .slice K2 m2 e2]) ?hx ?hy _ _ HQ2.out (info_rec) (rfl) (by intro v_ hv_; simp only [List.mem_cons, List.not_mem_nil, or_false] at hv_; rcases hv_ with rfl | rfl | rfl <;> rfl) w.heap.size w HB.out GE_HQ2.out ?_; (case hgd => rfl); (case hN => rfl); (case ho => rfl); (case hx => rfl); (case hy => rfl); intro w_ hx_ ho_ hb_; clear cHG_0 cHG_1 cHG_2 cHX_n cHY_0 cHY_1 cHY_2 cHQ_n cHQ2_0 cHQ2_1 cHQ2_2; replace HG := Aside0.mk ((ho_ _ NE_HG_HQ2.out).trans HG.out); replace HX := Aside0.mk (HeadAt.other HX.out ho_ NE_HX_HQ2.out); replace HV1 := Aside0.mk (Row8.other HV1.out HQ2.out (by decide) ho_); replace HV2 := Aside0.mk (Row8.other HV2.out HQ2.out (by decide) ho_); replace HY := Aside0.mk ((ho_ _ NE_HY_HQ2.out).trans HY.out); replace HPX := Aside0.mk (Row8.other HPX.out HQ2.out (by decide) ho_); replace HPY := Aside0.mk (Row8.other HPY.out HQ2.out (by decide) ho_); replace HLN := Aside0.mk (LentAt.other HLN.out HQ2.out (by decide) ho_); replace HQ := Aside0.mk (HeadAt.other HQ.out ho_ NE_HQ_HQ2.out); replace HRQ := Aside0.mk (RecOk.other HRQ.out HQ2.out (by decide) ho_); clear HB; have HB := Aside0.mk hb_; clear hb_; clear HQ2; have HQ2 : Aside0 (w_.heap[g20]? = some (.cells #[.int .i64 no1, .slice K1 m1 e1, .slice K2 m2 e2] 31 (0, 0))) := ⟨hx_⟩; clear hx_ ho_; have cHG_0 := c3_0 HG.out; have cHG_1 := c3_1 HG.out; have cHG_2 := c3_2 HG.out; have cHX_n := cell_no HX.out; have cHY_0 := c3_0 HY.out; have cHY_1 := c3_1 HY.out; have cHY_2 := c3_2 HY.out; have cHQ_n := cell_no HQ.out; have cHQ2_0 := c3_0 HQ2.out; have cHQ2_1 := c3_1 HQ2.out; have cHQ2_2 := c3_2 HQ2.out))
    | (go_at_call 13; go_loud ((with_reducible refine (cFresh.out _).mono ?_); rintro e w_ ⟨rfl, hb⟩; clear cHG_0 cHG_1 cHG_2 cHX_n cHY_0 cHY_1 cHY_2 cHQ_n cHQ2_0 cHQ2_1 cHQ2_2; replace HB := Aside0.mk (below_step HB.out hb); replace HG := Aside0.mk (blk_below HG.out hb); replace HX := Aside0.mk (HeadAt.below HX.out hb); replace HV1 := Aside0.mk (Row8.below HV1.out hb); replace HV2 := Aside0.mk (Row8.below HV2.out hb); replace HY := Aside0.mk (blk_below HY.out hb); replace HPX := Aside0.mk (Row8.below HPX.out hb); replace HPY := Aside0.mk (Row8.below HPY.out hb); replace HLN := Aside0.mk (LentAt.below HLN.out hb); replace HQ := Aside0.mk (HeadAt.below HQ.out hb); replace HRQ := Aside0.mk (RecOk.below HRQ.out hb); replace HQ2 := Aside0.mk (blk_below HQ2.out hb); clear hb; have cHG_0 := c3_0 HG.out; have cHG_1 := c3_1 HG.out; have cHG_2 := c3_2 HG.out; have cHX_n := cell_no HX.out; have cHY_0 := c3_0 HY.out; have cHY_1 := c3_1 HY.out; have cHY_2 := c3_2 HY.out; have cHQ_n := cell_no HQ.out; have cHQ2_0 := c3_0 HQ2.out; have cHQ2_1 := c3_1 HQ2.out; have cHQ2_2 := c3_2 HQ2.out))
    | ((with_reducible refine gate_dst (N := 22) rfl ?_); go_loud (refine box_event ?hg (N := 22) ?hd (cs := (headC 0 (zeros 16) (zeros 8)).toArray) (t := 28) ?hr ?_; (case hd => rfl); (case hg => rfl); (case hr => kernel_rfl); intro g22 hg w_ hx hb; have NE_HG_HF := Aside0.mk (new_ne HG.out hg); have NE_HX_HF := Aside0.mk (new_ne HX.out hg); have NE_HY_HF := Aside0.mk (new_ne HY.out hg); have NE_HQ_HF := Aside0.mk (new_ne HQ.out hg); have NE_HQ2_HF := Aside0.mk (new_ne HQ2.out hg); have GE_HF := Aside0.mk (show w.heap.size ≤ g22 by have := HB.out.size; omega); clear hg; clear cHG_0 cHG_1 cHG_2 cHX_n cHY_0 cHY_1 cHY_2 cHQ_n cHQ2_0 cHQ2_1 cHQ2_2; replace HB := Aside0.mk (below_step HB.out hb); replace HG := Aside0.mk (blk_below HG.out hb); replace HX := Aside0.mk (HeadAt.below HX.out hb); replace HV1 := Aside0.mk (Row8.below HV1.out hb); replace HV2 := Aside0.mk (Row8.below HV2.out hb); replace HY := Aside0.mk (blk_below HY.out hb); replace HPX := Aside0.mk (Row8.below HPX.out hb); replace HPY := Aside0.mk (Row8.below HPY.out hb); replace HLN := Aside0.mk (LentAt.below HLN.out hb); replace HQ := Aside0.mk (HeadAt.below HQ.out hb); replace HRQ := Aside0.mk (RecOk.below HRQ.out hb); replace HQ2 := Aside0.mk (blk_below HQ2.out hb); clear hb; have HF : Aside0 (HeadAt w_ g22 0 (zeros 16) (zeros 8)) := ⟨hx⟩; clear hx; have cHG_0 := c3_0 HG.out; have cHG_1 := c3_1 HG.out; have cHG_2 := c3_2 HG.out; have cHX_n := cell_no HX.out; have cHY_0 := c3_0 HY.out; have cHY_1 := c3_1 HY.out; have cHY_2 := c3_2 HY.out; have cHQ_n := cell_no HQ.out; have cHQ2_0 := c3_0 HQ2.out; have cHQ2_1 := c3_1 HQ2.out; have cHQ2_2 := c3_2 HQ2.out; have cHF_n := cell_no HF.out))
    | ((refine gate_store (t := 28) (p := 22) rfl ?_); go_loud (refine store_all (P := Try.prog) (t := 28) (p := 22) (v := .tmp 64) ?hgd ?hN ?ho g22 (headC r1 r2 r3) ?hx ?hy _ _ HF.out (hi_head HMF.out) (hold_head HZ.out HMF.out) (head_one _ _ _) w.heap.size w HB.out GE_HF.out ?_; (case hgd => rfl); (case hN => rfl); (case ho => rfl); (case hx => rfl); (case hy => rfl); intro w_ hx_ ho_ hb_; clear cHG_0 cHG_1 cHG_2 cHX_n cHY_0 cHY_1 cHY_2 cHQ_n cHQ2_0 cHQ2_1 cHQ2_2 cHF_n; replace HG := Aside0.mk ((ho_ _ NE_HG_HF.out).trans HG.out); replace HX := Aside0.mk (HeadAt.other HX.out ho_ NE_HX_HF.out); replace HV1 := Aside0.mk (Row8.other HV1.out HF.out (by decide) ho_); replace HV2 := Aside0.mk (Row8.other HV2.out HF.out (by decide) ho_); replace HY := Aside0.mk ((ho_ _ NE_HY_HF.out).trans HY.out); replace HPX := Aside0.mk (Row8.other HPX.out HF.out (by decide) ho_); replace HPY := Aside0.mk (Row8.other HPY.out HF.out (by decide) ho_); replace HLN := Aside0.mk (LentAt.other HLN.out HF.out (by decide) ho_); replace HQ := Aside0.mk (HeadAt.other HQ.out ho_ NE_HQ_HF.out); replace HRQ := Aside0.mk (RecOk.other HRQ.out HF.out (by decide) ho_); replace HQ2 := Aside0.mk ((ho_ _ NE_HQ2_HF.out).trans HQ2.out); clear HB; have HB := Aside0.mk hb_; clear hb_; clear HF; have HF : Aside0 (HeadAt w_ g22 r1 r2 r3) := ⟨hx_⟩; clear hx_ ho_; have cHG_0 := c3_0 HG.out; have cHG_1 := c3_1 HG.out; have cHG_2 := c3_2 HG.out; have cHX_n := cell_no HX.out; have cHY_0 := c3_0 HY.out; have cHY_1 := c3_1 HY.out; have cHY_2 := c3_2 HY.out; have cHQ_n := cell_no HQ.out; have cHQ2_0 := c3_0 HQ2.out; have cHQ2_1 := c3_1 HQ2.out; have cHQ2_2 := c3_2 HQ2.out; have cHF_n := cell_no HF.out))
    | (go_at_call 14; go_loud ((with_reducible refine (cRFresh.out _).mono ?_); rintro e w_ ⟨no2, J1, u1, f1, J2, u2, f2, rfl, hr1, hb⟩; clear cHG_0 cHG_1 cHG_2 cHX_n cHY_0 cHY_1 cHY_2 cHQ_n cHQ2_0 cHQ2_1 cHQ2_2 cHF_n; replace HB := Aside0.mk (below_step HB.out hb); replace HG := Aside0.mk (blk_below HG.out hb); replace HX := Aside0.mk (HeadAt.below HX.out hb); replace HV1 := Aside0.mk (Row8.below HV1.out hb); replace HV2 := Aside0.mk (Row8.below HV2.out hb); replace HY := Aside0.mk (blk_below HY.out hb); replace HPX := Aside0.mk (Row8.below HPX.out hb); replace HPY := Aside0.mk (Row8.below HPY.out hb); replace HLN := Aside0.mk (LentAt.below HLN.out hb); replace HQ := Aside0.mk (HeadAt.below HQ.out hb); replace HRQ := Aside0.mk (RecOk.below HRQ.out hb); replace HQ2 := Aside0.mk (blk_below HQ2.out hb); replace HF := Aside0.mk (HeadAt.below HF.out hb); clear hb; have HRF := Aside0.mk hr1; clear hr1; have cHG_0 := c3_0 HG.out; have cHG_1 := c3_1 HG.out; have cHG_2 := c3_2 HG.out; have cHX_n := cell_no HX.out; have cHY_0 := c3_0 HY.out; have cHY_1 := c3_1 HY.out; have cHY_2 := c3_2 HY.out; have cHQ_n := cell_no HQ.out; have cHQ2_0 := c3_0 HQ2.out; have cHQ2_1 := c3_1 HQ2.out; have cHQ2_2 := c3_2 HQ2.out; have cHF_n := cell_no HF.out))
    | ((with_reducible refine gate_dst (N := 24) rfl ?_); go_loud (refine box_event ?hg (N := 24) ?hd (cs := ([.int .i64 0, .slice none 0 0, .slice none 0 0]).toArray) (t := 31) ?hr ?_; (case hd => rfl); (case hg => rfl); (case hr => first | kernel_rfl | (go_simp; done) | (go_simp; rfl)); intro g24 hg w_ hx hb; have NE_HG_HF2 := Aside0.mk (new_ne HG.out hg); have NE_HX_HF2 := Aside0.mk (new_ne HX.out hg); have NE_HY_HF2 := Aside0.mk (new_ne HY.out hg); have NE_HQ_HF2 := Aside0.mk (new_ne HQ.out hg); have NE_HQ2_HF2 := Aside0.mk (new_ne HQ2.out hg); have NE_HF_HF2 := Aside0.mk (new_ne HF.out hg); have GE_HF2 := Aside0.mk (show w.heap.size ≤ g24 by have := HB.out.size; omega); clear hg; clear cHG_0 cHG_1 cHG_2 cHX_n cHY_0 cHY_1 cHY_2 cHQ_n cHQ2_0 cHQ2_1 cHQ2_2 cHF_n; replace HB := Aside0.mk (below_step HB.out hb); replace HG := Aside0.mk (blk_below HG.out hb); replace HX := Aside0.mk (HeadAt.below HX.out hb); replace HV1 := Aside0.mk (Row8.below HV1.out hb); replace HV2 := Aside0.mk (Row8.below HV2.out hb); replace HY := Aside0.mk (blk_below HY.out hb); replace HPX := Aside0.mk (Row8.below HPX.out hb); replace HPY := Aside0.mk (Row8.below HPY.out hb); replace HLN := Aside0.mk (LentAt.below HLN.out hb); replace HQ := Aside0.mk (HeadAt.below HQ.out hb); replace HRQ := Aside0.mk (RecOk.below HRQ.out hb); replace HQ2 := Aside0.mk (blk_below HQ2.out hb); replace HF := Aside0.mk (HeadAt.below HF.out hb); replace HRF := Aside0.mk (RecOk.below HRF.out hb); clear hb; have HF2 : Aside0 (w_.heap[g24]? = some (.cells #[.int .i64 0, .slice none 0 0, .slice none 0 0] 31 (0, 0))) := ⟨hx⟩; clear hx; have cHG_0 := c3_0 HG.out; have cHG_1 := c3_1 HG.out; have cHG_2 := c3_2 HG.out; have cHX_n := cell_no HX.out; have cHY_0 := c3_0 HY.out; have cHY_1 := c3_1 HY.out; have cHY_2 := c3_2 HY.out; have cHQ_n := cell_no HQ.out; have cHQ2_0 := c3_0 HQ2.out; have cHQ2_1 := c3_1 HQ2.out; have cHQ2_2 := c3_2 HQ2.out; have cHF_n := cell_no HF.out; have cHF2_0 := c3_0 HF2.out; have cHF2_1 := c3_1 HF2.out; have cHF2_2 := c3_2 HF2.out))
    | ((refine gate_store (t := 31) (p := 24) rfl ?_); go_loud (refine store_all (P := Try.prog) (t := 31) (p := 24) (v := .tmp 70) ?hgd ?hN ?ho g24 ([.int .i64 no2, .slice J1 u1 f1, .slice J2 u2 f2]) ?hx ?hy _ _ HF2.out (info_rec) (rfl) (by intro v_ hv_; simp only [List.mem_cons, List.not_mem_nil, or_false] at hv_; rcases hv_ with rfl | rfl | rfl <;> rfl) w.heap.size w HB.out GE_HF2.out ?_; (case hgd => rfl); (case hN => rfl); (case ho => rfl); (case hx => rfl); (case hy => rfl); intro w_ hx_ ho_ hb_; clear cHG_0 cHG_1 cHG_2 cHX_n cHY_0 cHY_1 cHY_2 cHQ_n cHQ2_0 cHQ2_1 cHQ2_2 cHF_n cHF2_0 cHF2_1 cHF2_2; replace HG := Aside0.mk ((ho_ _ NE_HG_HF2.out).trans HG.out); replace HX := Aside0.mk (HeadAt.other HX.out ho_ NE_HX_HF2.out); replace HV1 := Aside0.mk (Row8.other HV1.out HF2.out (by decide) ho_); replace HV2 := Aside0.mk (Row8.other HV2.out HF2.out (by decide) ho_); replace HY := Aside0.mk ((ho_ _ NE_HY_HF2.out).trans HY.out); replace HPX := Aside0.mk (Row8.other HPX.out HF2.out (by decide) ho_); replace HPY := Aside0.mk (Row8.other HPY.out HF2.out (by decide) ho_); replace HLN := Aside0.mk (LentAt.other HLN.out HF2.out (by decide) ho_); replace HQ := Aside0.mk (HeadAt.other HQ.out ho_ NE_HQ_HF2.out); replace HRQ := Aside0.mk (RecOk.other HRQ.out HF2.out (by decide) ho_); replace HQ2 := Aside0.mk ((ho_ _ NE_HQ2_HF2.out).trans HQ2.out); replace HF := Aside0.mk (HeadAt.other HF.out ho_ NE_HF_HF2.out); replace HRF := Aside0.mk (RecOk.other HRF.out HF2.out (by decide) ho_); clear HB; have HB := Aside0.mk hb_; clear hb_; clear HF2; have HF2 : Aside0 (w_.heap[g24]? = some (.cells #[.int .i64 no2, .slice J1 u1 f1, .slice J2 u2 f2] 31 (0, 0))) := ⟨hx_⟩; clear hx_ ho_; have cHG_0 := c3_0 HG.out; have cHG_1 := c3_1 HG.out; have cHG_2 := c3_2 HG.out; have cHX_n := cell_no HX.out; have cHY_0 := c3_0 HY.out; have cHY_1 := c3_1 HY.out; have cHY_2 := c3_2 HY.out; have cHQ_n := cell_no HQ.out; have cHQ2_0 := c3_0 HQ2.out; have cHQ2_1 := c3_1 HQ2.out; have cHQ2_2 := c3_2 HQ2.out; have cHF_n := cell_no HF.out; have cHF2_0 := c3_0 HF2.out; have cHF2_1 := c3_1 HF2.out; have cHF2_2 := c3_2 HF2.out)))
  clear cHG_0 cHG_1 cHG_2 cHX_n cHY_0 cHY_1 cHY_2 cHQ_n cHQ2_0 cHQ2_1 cHQ2_2 cHF_n cHF2_0 cHF2_1 cHF2_2
  replace HB := Aside0.mk (below_drew HB.out)
  replace HG := Aside0.mk (blk_drew HG.out)
  replace HX := Aside0.mk (HeadAt.drew HX.out)
  replace HV1 := Aside0.mk (Row8.drew HV1.out)
  replace HV2 := Aside0.mk (Row8.drew HV2.out)
  replace HY := Aside0.mk (blk_drew HY.out)
  replace HPX := Aside0.mk (Row8.drew HPX.out)
  replace HPY := Aside0.mk (Row8.drew HPY.out)
  replace HLN := Aside0.mk (LentAt.drew HLN.out)
  replace HQ := Aside0.mk (HeadAt.drew HQ.out)
  replace HRQ := Aside0.mk (RecOk.drew HRQ.out)
  replace HQ2 := Aside0.mk (blk_drew HQ2.out)
  replace HF := Aside0.mk (HeadAt.drew HF.out)
  replace HRF := Aside0.mk (RecOk.drew HRF.out)
  replace HF2 := Aside0.mk (blk_drew HF2.out)
  refine q_start (n := 41) (S := fun (_ : Unit) w_ => Below w.heap.size w w_ ∧ w_.heap[g5]? = some (.cells #[.int .i64 G, .int .i64 I, .int .i64 N] 23 (0, 0)) ∧ HeadAt w_ g11 no P1 P2 ∧ Row8 w_ (.slice B1 16 d1) P1 ∧ Row8 w_ (.slice B2 8 d2) P2 ∧ w_.heap[g12]? = some (.cells #[.int .i64 no, .slice B1 16 d1, .slice B2 8 d2] 31 (0, 0)) ∧ Row8 w_ (.slice X LX.length cX) LX ∧ Row8 w_ (.slice Y LX.length cY) LX ∧ LentAt w_ Lo cL l4 ∧ HeadAt w_ g18 q1 q2 q3 ∧ RecOk w_ (q1, q2, q3, q4) no1 K1 m1 e1 K2 m2 e2 ∧ w_.heap[g20]? = some (.cells #[.int .i64 no1, .slice K1 m1 e1, .slice K2 m2 e2] 31 (0, 0)) ∧ HeadAt w_ g22 r1 r2 r3 ∧ RecOk w_ (r1, r2, r3, r4) no2 J1 u1 f1 J2 u2 f2 ∧ w_.heap[g24]? = some (.cells #[.int .i64 no2, .slice J1 u1 f1, .slice J2 u2 f2] 31 (0, 0))) (ds := []) () #[ff, ff, ff, ff, ff, ff, ff, ff, ff, ff, ff, ff, ff, ff, ff, ff, ff, ff, ff, ff, ff, ff, ff, ff, ff, ff, ff, ff, ff, ff, ff, ff, ff, ff, ff, ff, ff, ff, ff, ff, ff] (by kernel_rfl) rfl rfl ⟨HB.out, HG.out, HX.out, HV1.out, HV2.out, HY.out, HPX.out, HPY.out, HLN.out, HQ.out, HRQ.out, HQ2.out, HF.out, HRF.out, HF2.out⟩ ?_
  clear HB HG HX HV1 HV2 HY HPX HPY HLN HQ HRQ HQ2 HF HRF HF2
  refine q_tab law06_Bytes.tab10 law06_Bytes.bits10 (fun HT_ HW_ => ?_)
  refine q_take (i := 0) (N := some 72) (v := ?_) (a' := ?_) #[tt, ff, ff, ff, ff, ff, ff, ff, ff, ff, ff, ff, ff, ff, ff, ff, ff, ff, ff, ff, ff, ff, ff, ff, ff, ff, ff, ff, ff, ff, ff, ff, ff, ff, ff, ff, ff, ff, ff, ff, ff] rfl rfl (take_ofW HT_.out HW_.out (by kernel_rfl)) (by decide) (quiet_val (by rfl) ?_) ?_ ?_
  rotate_left
  · intro _ w_ _
    go_simp
    with_reducible rfl
  rotate_left
  · simp only [Act.put, List.setIfInBounds_toArray, List.set_cons_zero, List.set_cons_succ, i64_w, i32_w, List.getElem_toArray, List.getElem_cons_succ, List.getElem_cons_zero]
    rfl
  refine q_take (i := 1) (N := some 73) (v := .string (strOfNums LX)) (a' := ?_) #[tt, tt, ff, ff, ff, ff, ff, ff, ff, ff, ff, ff, ff, ff, ff, ff, ff, ff, ff, ff, ff, ff, ff, ff, ff, ff, ff, ff, ff, ff, ff, ff, ff, ff, ff, ff, ff, ff, ff, ff, ff] rfl rfl (take_ofW HT_.out HW_.out (by kernel_rfl)) (by decide) (quiet_val (by rfl) ?_) ?_ ?_
  · rintro _ w_ ⟨hHB, hHG, hHX, hHV1, hHV2, hHY, hHPX, hHPY, hHLN, hHQ, hHRQ, hHQ2, hHF, hHRF, hHF2⟩
    have HPX := Aside0.mk hHPX
    clear hHPX
    exact run_str (.tmp 72) rfl rfl HPX.out
  rotate_left
  · simp only [Act.put, List.setIfInBounds_toArray, List.set_cons_zero, List.set_cons_succ, i64_w, i32_w, List.getElem_toArray, List.getElem_cons_succ, List.getElem_cons_zero]
    rfl
  refine q_take (i := 2) (N := some 74) (v := ?_) (a' := ?_) #[tt, tt, tt, ff, ff, ff, ff, ff, ff, ff, ff, ff, ff, ff, ff, ff, ff, ff, ff, ff, ff, ff, ff, ff, ff, ff, ff, ff, ff, ff, ff, ff, ff, ff, ff, ff, ff, ff, ff, ff, ff] rfl rfl (take_ofW HT_.out HW_.out (by kernel_rfl)) (by decide) (quiet_val (by rfl) ?_) ?_ ?_
  rotate_left
  · intro _ w_ _
    go_simp
    with_reducible rfl
  rotate_left
  · simp only [Act.put, List.setIfInBounds_toArray, List.set_cons_zero, List.set_cons_succ, i64_w, i32_w, List.getElem_toArray, List.getElem_cons_succ, List.getElem_cons_zero]
    rfl
  refine q_take (i := 3) (N := some 75) (v := .string (strOfNums LX)) (a' := ?_) #[tt, tt, tt, tt, ff, ff, ff, ff, ff, ff, ff, ff, ff, ff, ff, ff, ff, ff, ff, ff, ff, ff, ff, ff, ff, ff, ff, ff, ff, ff, ff, ff, ff, ff, ff, ff, ff, ff, ff, ff, ff] rfl rfl (take_ofW HT_.out HW_.out (by kernel_rfl)) (by decide) (quiet_val (by rfl) ?_) ?_ ?_
  · rintro _ w_ ⟨hHB, hHG, hHX, hHV1, hHV2, hHY, hHPX, hHPY, hHLN, hHQ, hHRQ, hHQ2, hHF, hHRF, hHF2⟩
    have HPY := Aside0.mk hHPY
    clear hHPY
    exact run_str (.tmp 74) rfl rfl HPY.out
  rotate_left
  · simp only [Act.put, List.setIfInBounds_toArray, List.set_cons_zero, List.set_cons_succ, i64_w, i32_w, List.getElem_toArray, List.getElem_cons_succ, List.getElem_cons_zero]
    rfl
  refine q_take (i := 4) (N := some 76) (v := .bool false) (a' := ?_) #[tt, tt, tt, tt, tt, ff, ff, ff, ff, ff, ff, ff, ff, ff, ff, ff, ff, ff, ff, ff, ff, ff, ff, ff, ff, ff, ff, ff, ff, ff, ff, ff, ff, ff, ff, ff, ff, ff, ff, ff, ff] rfl rfl (take_ofW HT_.out HW_.out (by kernel_rfl)) (by decide) (quiet_val (by rfl) ?_) ?_ ?_
  · rintro _ w_ ⟨hHB, hHG, hHX, hHV1, hHV2, hHY, hHPX, hHPY, hHLN, hHQ, hHRQ, hHQ2, hHF, hHRF, hHF2⟩
    skip
    go_simp
    try rfl
  rotate_left
  · simp only [Act.put, List.setIfInBounds_toArray, List.set_cons_zero, List.set_cons_succ, i64_w, i32_w, List.getElem_toArray, List.getElem_cons_succ, List.getElem_cons_zero]
    rfl
  refine q_take (i := 5) (N := some 77) (v := ?_) (a' := ?_) #[tt, tt, tt, tt, tt, tt, ff, ff, ff, ff, ff, ff, ff, ff, ff, ff, ff, ff, ff, ff, ff, ff, ff, ff, ff, ff, ff, ff, ff, ff, ff, ff, ff, ff, ff, ff, ff, ff, ff, ff, ff] rfl rfl (take_ofW HT_.out HW_.out (by kernel_rfl)) (by decide) (quiet_val (by rfl) ?_) ?_ ?_
  rotate_left
  · intro _ w_ _
    go_simp
    with_reducible rfl
  rotate_left
  · simp only [Act.put, List.setIfInBounds_toArray, List.set_cons_zero, List.set_cons_succ, i64_w, i32_w, List.getElem_toArray, List.getElem_cons_succ, List.getElem_cons_zero]
    rfl
  refine q_take (i := 6) (N := some 78) (v := ?_) (a' := ?_) #[tt, tt, tt, tt, tt, tt, tt, ff, ff, ff, ff, ff, ff, ff, ff, ff, ff, ff, ff, ff, ff, ff, ff, ff, ff, ff, ff, ff, ff, ff, ff, ff, ff, ff, ff, ff, ff, ff, ff, ff, ff] rfl rfl (take_ofW HT_.out HW_.out (by kernel_rfl)) (by decide) (quiet_val (by rfl) ?_) ?_ ?_
  rotate_left
  · intro _ w_ _
    go_simp
    with_reducible rfl
  rotate_left
  · simp only [Act.put, List.setIfInBounds_toArray, List.set_cons_zero, List.set_cons_succ, i64_w, i32_w, List.getElem_toArray, List.getElem_cons_succ, List.getElem_cons_zero]
    rfl
  refine q_take (i := 7) (N := some 79) (v := ?_) (a' := ?_) #[tt, tt, tt, tt, tt, tt, tt, tt, ff, ff, ff, ff, ff, ff, ff, ff, ff, ff, ff, ff, ff, ff, ff, ff, ff, ff, ff, ff, ff, ff, ff, ff, ff, ff, ff, ff, ff, ff, ff, ff, ff] rfl rfl (take_ofW HT_.out HW_.out (by kernel_rfl)) (by decide) (quiet_val (by rfl) ?_) ?_ ?_
  rotate_left
  · intro _ w_ _
    go_simp
    with_reducible rfl
  rotate_left
  · simp only [Act.put, List.setIfInBounds_toArray, List.set_cons_zero, List.set_cons_succ, i64_w, i32_w, List.getElem_toArray, List.getElem_cons_succ, List.getElem_cons_zero]
    rfl
  refine q_take (i := 8) (N := some 80) (v := .bool false) (a' := ?_) #[tt, tt, tt, tt, tt, tt, tt, tt, tt, ff, ff, ff, ff, ff, ff, ff, ff, ff, ff, ff, ff, ff, ff, ff, ff, ff, ff, ff, ff, ff, ff, ff, ff, ff, ff, ff, ff, ff, ff, ff, ff] rfl rfl (take_ofW HT_.out HW_.out (by kernel_rfl)) (by decide) (quiet_val (by rfl) ?_) ?_ ?_
  · rintro _ w_ ⟨hHB, hHG, hHX, hHV1, hHV2, hHY, hHPX, hHPY, hHLN, hHQ, hHRQ, hHQ2, hHF, hHRF, hHF2⟩
    skip
    go_simp
    try rfl
  rotate_left
  · simp only [Act.put, List.setIfInBounds_toArray, List.set_cons_zero, List.set_cons_succ, i64_w, i32_w, List.getElem_toArray, List.getElem_cons_succ, List.getElem_cons_zero]
    rfl
  refine q_take (i := 9) (N := some 81) (v := ?_) (a' := ?_) #[tt, tt, tt, tt, tt, tt, tt, tt, tt, tt, ff, ff, ff, ff, ff, ff, ff, ff, ff, ff, ff, ff, ff, ff, ff, ff, ff, ff, ff, ff, ff, ff, ff, ff, ff, ff, ff, ff, ff, ff, ff] rfl rfl (take_ofW HT_.out HW_.out (by kernel_rfl)) (by decide) (quiet_val (by rfl) ?_) ?_ ?_
  rotate_left
  · intro _ w_ _
    go_simp
    with_reducible rfl
  rotate_left
  · simp only [Act.put, List.setIfInBounds_toArray, List.set_cons_zero, List.set_cons_succ, i64_w, i32_w, List.getElem_toArray, List.getElem_cons_succ, List.getElem_cons_zero]
    rfl
  refine q_take (i := 10) (N := some 82) (v := ?_) (a' := ?_) #[tt, tt, tt, tt, tt, tt, tt, tt, tt, tt, tt, ff, ff, ff, ff, ff, ff, ff, ff, ff, ff, ff, ff, ff, ff, ff, ff, ff, ff, ff, ff, ff, ff, ff, ff, ff, ff, ff, ff, ff, ff] rfl rfl (take_ofW HT_.out HW_.out (by kernel_rfl)) (by decide) (quiet_val (by rfl) ?_) ?_ ?_
  rotate_left
  · intro _ w_ _
    go_simp
    with_reducible rfl
  rotate_left
  · simp only [Act.put, List.setIfInBounds_toArray, List.set_cons_zero, List.set_cons_succ, i64_w, i32_w, List.getElem_toArray, List.getElem_cons_succ, List.getElem_cons_zero]
    rfl
  refine q_take (i := 11) (N := some 83) (v := headV q1 q2 q3) (a' := ?_) #[tt, tt, tt, tt, tt, tt, tt, tt, tt, tt, tt, tt, ff, ff, ff, ff, ff, ff, ff, ff, ff, ff, ff, ff, ff, ff, ff, ff, ff, ff, ff, ff, ff, ff, ff, ff, ff, ff, ff, ff, ff] rfl rfl (take_ofW HT_.out HW_.out (by kernel_rfl)) (by decide) (quiet_val (by rfl) ?_) ?_ ?_
  · rintro _ w_ ⟨hHB, hHG, hHX, hHV1, hHV2, hHY, hHPX, hHPY, hHLN, hHQ, hHRQ, hHQ2, hHF, hHRF, hHF2⟩
    have HQ := Aside0.mk hHQ
    clear hHQ
    have cHQ_n := cell_no HQ.out
    exact run_loadH (.tmp 18) rfl rfl HQ.out HMQ.out
  rotate_left
  · simp only [Act.put, List.setIfInBounds_toArray, List.set_cons_zero, List.set_cons_succ, i64_w, i32_w, List.getElem_toArray, List.getElem_cons_succ, List.getElem_cons_zero]
    rfl
  refine q_take (i := 12) (N := some 84) (v := ?_) (a' := ?_) #[tt, tt, tt, tt, tt, tt, tt, tt, tt, tt, tt, tt, tt, ff, ff, ff, ff, ff, ff, ff, ff, ff, ff, ff, ff, ff, ff, ff, ff, ff, ff, ff, ff, ff, ff, ff, ff, ff, ff, ff, ff] rfl rfl (take_ofW HT_.out HW_.out (by kernel_rfl)) (by decide) (quiet_val (by rfl) ?_) ?_ ?_
  rotate_left
  · intro _ w_ _
    go_simp
    with_reducible rfl
  rotate_left
  · simp only [Act.put, List.setIfInBounds_toArray, List.set_cons_zero, List.set_cons_succ, i64_w, i32_w, List.getElem_toArray, List.getElem_cons_succ, List.getElem_cons_zero]
    rfl
  refine q_take (i := 13) (N := some 85) (v := ?_) (a' := ?_) #[tt, tt, tt, tt, tt, tt, tt, tt, tt, tt, tt, tt, tt, tt, ff, ff, ff, ff, ff, ff, ff, ff, ff, ff, ff, ff, ff, ff, ff, ff, ff, ff, ff, ff, ff, ff, ff, ff, ff, ff, ff] rfl rfl (take_ofW HT_.out HW_.out (by kernel_rfl)) (by decide) (quiet_val (by rfl) ?_) ?_ ?_
  rotate_left
  · rintro _ w_ ⟨hHB, hHG, hHX, hHV1, hHV2, hHY, hHPX, hHPY, hHLN, hHQ, hHRQ, hHQ2, hHF, hHRF, hHF2⟩
    have HQ2 := Aside0.mk hHQ2
    clear hHQ2
    have cHQ2_0 := c3_0 HQ2.out
    have cHQ2_1 := c3_1 HQ2.out
    have cHQ2_2 := c3_2 HQ2.out
    go_simp
    with_reducible rfl
  rotate_left
  · simp only [Act.put, List.setIfInBounds_toArray, List.set_cons_zero, List.set_cons_succ, i64_w, i32_w, List.getElem_toArray, List.getElem_cons_succ, List.getElem_cons_zero]
    rfl
  refine q_take (i := 14) (N := some 86) (v := ?_) (a' := ?_) #[tt, tt, tt, tt, tt, tt, tt, tt, tt, tt, tt, tt, tt, tt, tt, ff, ff, ff, ff, ff, ff, ff, ff, ff, ff, ff, ff, ff, ff, ff, ff, ff, ff, ff, ff, ff, ff, ff, ff, ff, ff] rfl rfl (take_ofW HT_.out HW_.out (by kernel_rfl)) (by decide) (quiet_val (by rfl) ?_) ?_ ?_
  rotate_left
  · intro _ w_ _
    go_simp
    with_reducible rfl
  rotate_left
  · simp only [Act.put, List.setIfInBounds_toArray, List.set_cons_zero, List.set_cons_succ, i64_w, i32_w, List.getElem_toArray, List.getElem_cons_succ, List.getElem_cons_zero]
    rfl
  refine q_take (i := 15) (N := some 87) (v := .bool true) (a' := ?_) #[tt, tt, tt, tt, tt, tt, tt, tt, tt, tt, tt, tt, tt, tt, tt, tt, ff, ff, ff, ff, ff, ff, ff, ff, ff, ff, ff, ff, ff, ff, ff, ff, ff, ff, ff, ff, ff, ff, ff, ff, ff] rfl rfl (take_ofW HT_.out HW_.out (by kernel_rfl)) (by decide) (quiet_call Try.func15 (by kernel_rfl) rfl #[headV q1 q2 q3, .int .i64 q4, .agg #[.int .i64 no1, .slice K1 m1 e1, .slice K2 m2 e2], .int .i64 q4] (by rfl) rfl (by (try simp only [List.map_toArray, List.map_cons, List.map_nil]); first | done | rfl) ?_) ?_ ?_
  · rintro _ w_ ⟨hHB, hHG, hHX, hHV1, hHV2, hHY, hHPX, hHPY, hHLN, hHQ, hHRQ, hHQ2, hHF, hHRF, hHF2⟩
    have HB := Aside0.mk hHB
    have HG := Aside0.mk hHG
    have HX := Aside0.mk hHX
    have HV1 := Aside0.mk hHV1
    have HV2 := Aside0.mk hHV2
    have HY := Aside0.mk hHY
    have HPX := Aside0.mk hHPX
    have HPY := Aside0.mk hHPY
    have HLN := Aside0.mk hHLN
    have HQ := Aside0.mk hHQ
    have HRQ := Aside0.mk hHRQ
    have HQ2 := Aside0.mk hHQ2
    have HF := Aside0.mk hHF
    have HRF := Aside0.mk hHRF
    have HF2 := Aside0.mk hHF2
    with_reducible refine (same_u (q1, q2, q3, q4) no1 K1 m1 e1 K2 m2 e2 _ HZQ.out HRQ.out).mono ?_
    rintro e w_2 ⟨rfl, hb⟩
    exact ⟨rfl, ⟨below_step HB.out hb, blk_below HG.out hb, HeadAt.below HX.out hb, Row8.below HV1.out hb, Row8.below HV2.out hb, blk_below HY.out hb, Row8.below HPX.out hb, Row8.below HPY.out hb, LentAt.below HLN.out hb, HeadAt.below HQ.out hb, RecOk.below HRQ.out hb, blk_below HQ2.out hb, HeadAt.below HF.out hb, RecOk.below HRF.out hb, blk_below HF2.out hb⟩⟩
  rotate_left
  · simp only [Act.put, List.setIfInBounds_toArray, List.set_cons_zero, List.set_cons_succ, i64_w, i32_w, List.getElem_toArray, List.getElem_cons_succ, List.getElem_cons_zero]
    rfl
  refine q_take (i := 16) (N := some 88) (v := ?_) (a' := ?_) #[tt, tt, tt, tt, tt, tt, tt, tt, tt, tt, tt, tt, tt, tt, tt, tt, tt, ff, ff, ff, ff, ff, ff, ff, ff, ff, ff, ff, ff, ff, ff, ff, ff, ff, ff, ff, ff, ff, ff, ff, ff] rfl rfl (take_ofW HT_.out HW_.out (by kernel_rfl)) (by decide) (quiet_val (by rfl) ?_) ?_ ?_
  rotate_left
  · intro _ w_ _
    go_simp
    with_reducible rfl
  rotate_left
  · simp only [Act.put, List.setIfInBounds_toArray, List.set_cons_zero, List.set_cons_succ, i64_w, i32_w, List.getElem_toArray, List.getElem_cons_succ, List.getElem_cons_zero]
    rfl
  refine q_take (i := 17) (N := some 89) (v := ?_) (a' := ?_) #[tt, tt, tt, tt, tt, tt, tt, tt, tt, tt, tt, tt, tt, tt, tt, tt, tt, tt, ff, ff, ff, ff, ff, ff, ff, ff, ff, ff, ff, ff, ff, ff, ff, ff, ff, ff, ff, ff, ff, ff, ff] rfl rfl (take_ofW HT_.out HW_.out (by kernel_rfl)) (by decide) (quiet_val (by rfl) ?_) ?_ ?_
  rotate_left
  · intro _ w_ _
    go_simp
    with_reducible rfl
  rotate_left
  · simp only [Act.put, List.setIfInBounds_toArray, List.set_cons_zero, List.set_cons_succ, i64_w, i32_w, List.getElem_toArray, List.getElem_cons_succ, List.getElem_cons_zero]
    rfl
  refine q_take (i := 18) (N := some 90) (v := ?_) (a' := ?_) #[tt, tt, tt, tt, tt, tt, tt, tt, tt, tt, tt, tt, tt, tt, tt, tt, tt, tt, tt, ff, ff, ff, ff, ff, ff, ff, ff, ff, ff, ff, ff, ff, ff, ff, ff, ff, ff, ff, ff, ff, ff] rfl rfl (take_ofW HT_.out HW_.out (by kernel_rfl)) (by decide) (quiet_val (by rfl) ?_) ?_ ?_
  rotate_left
  · intro _ w_ _
    go_simp
    with_reducible rfl
  rotate_left
  · simp only [Act.put, List.setIfInBounds_toArray, List.set_cons_zero, List.set_cons_succ, i64_w, i32_w, List.getElem_toArray, List.getElem_cons_succ, List.getElem_cons_zero]
    rfl
  refine q_take (i := 19) (N := some 91) (v := headV r1 r2 r3) (a' := ?_) #[tt, tt, tt, tt, tt, tt, tt, tt, tt, tt, tt, tt, tt, tt, tt, tt, tt, tt, tt, tt, ff, ff, ff, ff, ff, ff, ff, ff, ff, ff, ff, ff, ff, ff, ff, ff, ff, ff, ff, ff, ff] rfl rfl (take_ofW HT_.out HW_.out (by kernel_rfl)) (by decide) (quiet_val (by rfl) ?_) ?_ ?_
  · rintro _ w_ ⟨hHB, hHG, hHX, hHV1, hHV2, hHY, hHPX, hHPY, hHLN, hHQ, hHRQ, hHQ2, hHF, hHRF, hHF2⟩
    have HF := Aside0.mk hHF
    clear hHF
    have cHF_n := cell_no HF.out
    exact run_loadH (.tmp 22) rfl rfl HF.out HMF.out
  rotate_left
  · simp only [Act.put, List.setIfInBounds_toArray, List.set_cons_zero, List.set_cons_succ, i64_w, i32_w, List.getElem_toArray, List.getElem_cons_succ, List.getElem_cons_zero]
    rfl
  refine q_take (i := 20) (N := some 92) (v := ?_) (a' := ?_) #[tt, tt, tt, tt, tt, tt, tt, tt, tt, tt, tt, tt, tt, tt, tt, tt, tt, tt, tt, tt, tt, ff, ff, ff, ff, ff, ff, ff, ff, ff, ff, ff, ff, ff, ff, ff, ff, ff, ff, ff, ff] rfl rfl (take_ofW HT_.out HW_.out (by kernel_rfl)) (by decide) (quiet_val (by rfl) ?_) ?_ ?_
  rotate_left
  · intro _ w_ _
    go_simp
    with_reducible rfl
  rotate_left
  · simp only [Act.put, List.setIfInBounds_toArray, List.set_cons_zero, List.set_cons_succ, i64_w, i32_w, List.getElem_toArray, List.getElem_cons_succ, List.getElem_cons_zero]
    rfl
  refine q_take (i := 21) (N := some 93) (v := ?_) (a' := ?_) #[tt, tt, tt, tt, tt, tt, tt, tt, tt, tt, tt, tt, tt, tt, tt, tt, tt, tt, tt, tt, tt, tt, ff, ff, ff, ff, ff, ff, ff, ff, ff, ff, ff, ff, ff, ff, ff, ff, ff, ff, ff] rfl rfl (take_ofW HT_.out HW_.out (by kernel_rfl)) (by decide) (quiet_val (by rfl) ?_) ?_ ?_
  rotate_left
  · rintro _ w_ ⟨hHB, hHG, hHX, hHV1, hHV2, hHY, hHPX, hHPY, hHLN, hHQ, hHRQ, hHQ2, hHF, hHRF, hHF2⟩
    have HF2 := Aside0.mk hHF2
    clear hHF2
    have cHF2_0 := c3_0 HF2.out
    have cHF2_1 := c3_1 HF2.out
    have cHF2_2 := c3_2 HF2.out
    go_simp
    with_reducible rfl
  rotate_left
  · simp only [Act.put, List.setIfInBounds_toArray, List.set_cons_zero, List.set_cons_succ, i64_w, i32_w, List.getElem_toArray, List.getElem_cons_succ, List.getElem_cons_zero]
    rfl
  refine q_take (i := 22) (N := some 94) (v := ?_) (a' := ?_) #[tt, tt, tt, tt, tt, tt, tt, tt, tt, tt, tt, tt, tt, tt, tt, tt, tt, tt, tt, tt, tt, tt, tt, ff, ff, ff, ff, ff, ff, ff, ff, ff, ff, ff, ff, ff, ff, ff, ff, ff, ff] rfl rfl (take_ofW HT_.out HW_.out (by kernel_rfl)) (by decide) (quiet_val (by rfl) ?_) ?_ ?_
  rotate_left
  · intro _ w_ _
    go_simp
    with_reducible rfl
  rotate_left
  · simp only [Act.put, List.setIfInBounds_toArray, List.set_cons_zero, List.set_cons_succ, i64_w, i32_w, List.getElem_toArray, List.getElem_cons_succ, List.getElem_cons_zero]
    rfl
  refine q_take (i := 23) (N := some 95) (v := .bool true) (a' := ?_) #[tt, tt, tt, tt, tt, tt, tt, tt, tt, tt, tt, tt, tt, tt, tt, tt, tt, tt, tt, tt, tt, tt, tt, tt, ff, ff, ff, ff, ff, ff, ff, ff, ff, ff, ff, ff, ff, ff, ff, ff, ff] rfl rfl (take_ofW HT_.out HW_.out (by kernel_rfl)) (by decide) (quiet_call Try.func15 (by kernel_rfl) rfl #[headV r1 r2 r3, .int .i64 r4, .agg #[.int .i64 no2, .slice J1 u1 f1, .slice J2 u2 f2], .int .i64 r4] (by rfl) rfl (by (try simp only [List.map_toArray, List.map_cons, List.map_nil]); first | done | rfl) ?_) ?_ ?_
  · rintro _ w_ ⟨hHB, hHG, hHX, hHV1, hHV2, hHY, hHPX, hHPY, hHLN, hHQ, hHRQ, hHQ2, hHF, hHRF, hHF2⟩
    have HB := Aside0.mk hHB
    have HG := Aside0.mk hHG
    have HX := Aside0.mk hHX
    have HV1 := Aside0.mk hHV1
    have HV2 := Aside0.mk hHV2
    have HY := Aside0.mk hHY
    have HPX := Aside0.mk hHPX
    have HPY := Aside0.mk hHPY
    have HLN := Aside0.mk hHLN
    have HQ := Aside0.mk hHQ
    have HRQ := Aside0.mk hHRQ
    have HQ2 := Aside0.mk hHQ2
    have HF := Aside0.mk hHF
    have HRF := Aside0.mk hHRF
    have HF2 := Aside0.mk hHF2
    with_reducible refine (same_u (r1, r2, r3, r4) no2 J1 u1 f1 J2 u2 f2 _ HZF.out HRF.out).mono ?_
    rintro e w_2 ⟨rfl, hb⟩
    exact ⟨rfl, ⟨below_step HB.out hb, blk_below HG.out hb, HeadAt.below HX.out hb, Row8.below HV1.out hb, Row8.below HV2.out hb, blk_below HY.out hb, Row8.below HPX.out hb, Row8.below HPY.out hb, LentAt.below HLN.out hb, HeadAt.below HQ.out hb, RecOk.below HRQ.out hb, blk_below HQ2.out hb, HeadAt.below HF.out hb, RecOk.below HRF.out hb, blk_below HF2.out hb⟩⟩
  rotate_left
  · simp only [Act.put, List.setIfInBounds_toArray, List.set_cons_zero, List.set_cons_succ, i64_w, i32_w, List.getElem_toArray, List.getElem_cons_succ, List.getElem_cons_zero]
    rfl
  refine q_take (i := 24) (N := some 96) (v := ?_) (a' := ?_) #[tt, tt, tt, tt, tt, tt, tt, tt, tt, tt, tt, tt, tt, tt, tt, tt, tt, tt, tt, tt, tt, tt, tt, tt, tt, ff, ff, ff, ff, ff, ff, ff, ff, ff, ff, ff, ff, ff, ff, ff, ff] rfl rfl (take_ofW HT_.out HW_.out (by kernel_rfl)) (by decide) (quiet_val (by rfl) ?_) ?_ ?_
  rotate_left
  · intro _ w_ _
    go_simp
    with_reducible rfl
  rotate_left
  · simp only [Act.put, List.setIfInBounds_toArray, List.set_cons_zero, List.set_cons_succ, i64_w, i32_w, List.getElem_toArray, List.getElem_cons_succ, List.getElem_cons_zero]
    rfl
  refine q_take (i := 25) (N := some 97) (v := ?_) (a' := ?_) #[tt, tt, tt, tt, tt, tt, tt, tt, tt, tt, tt, tt, tt, tt, tt, tt, tt, tt, tt, tt, tt, tt, tt, tt, tt, tt, ff, ff, ff, ff, ff, ff, ff, ff, ff, ff, ff, ff, ff, ff, ff] rfl rfl (take_ofW HT_.out HW_.out (by kernel_rfl)) (by decide) (quiet_val (by rfl) ?_) ?_ ?_
  rotate_left
  · intro _ w_ _
    go_simp
    with_reducible rfl
  rotate_left
  · simp only [Act.put, List.setIfInBounds_toArray, List.set_cons_zero, List.set_cons_succ, i64_w, i32_w, List.getElem_toArray, List.getElem_cons_succ, List.getElem_cons_zero]
    rfl
  refine q_take (i := 26) (N := some 98) (v := ?_) (a' := ?_) #[tt, tt, tt, tt, tt, tt, tt, tt, tt, tt, tt, tt, tt, tt, tt, tt, tt, tt, tt, tt, tt, tt, tt, tt, tt, tt, tt, ff, ff, ff, ff, ff, ff, ff, ff, ff, ff, ff, ff, ff, ff] rfl rfl (take_ofW HT_.out HW_.out (by kernel_rfl)) (by decide) (quiet_val (by rfl) ?_) ?_ ?_
  rotate_left
  · intro _ w_ _
    go_simp
    with_reducible rfl
  rotate_left
  · simp only [Act.put, List.setIfInBounds_toArray, List.set_cons_zero, List.set_cons_succ, i64_w, i32_w, List.getElem_toArray, List.getElem_cons_succ, List.getElem_cons_zero]
    rfl
  refine q_take (i := 27) (N := some 99) (v := ?_) (a' := ?_) #[tt, tt, tt, tt, tt, tt, tt, tt, tt, tt, tt, tt, tt, tt, tt, tt, tt, tt, tt, tt, tt, tt, tt, tt, tt, tt, tt, tt, ff, ff, ff, ff, ff, ff, ff, ff, ff, ff, ff, ff, ff] rfl rfl (take_ofW HT_.out HW_.out (by kernel_rfl)) (by decide) (quiet_val (by rfl) ?_) ?_ ?_
  rotate_left
  · rintro _ w_ ⟨hHB, hHG, hHX, hHV1, hHV2, hHY, hHPX, hHPY, hHLN, hHQ, hHRQ, hHQ2, hHF, hHRF, hHF2⟩
    have HG := Aside0.mk hHG
    clear hHG
    have cHG_0 := c3_0 HG.out
    have cHG_1 := c3_1 HG.out
    have cHG_2 := c3_2 HG.out
    go_simp
    with_reducible rfl
  rotate_left
  · simp only [Act.put, List.setIfInBounds_toArray, List.set_cons_zero, List.set_cons_succ, i64_w, i32_w, List.getElem_toArray, List.getElem_cons_succ, List.getElem_cons_zero]
    rfl
  refine q_take (i := 28) (N := some 100) (v := headV no P1 P2) (a' := ?_) #[tt, tt, tt, tt, tt, tt, tt, tt, tt, tt, tt, tt, tt, tt, tt, tt, tt, tt, tt, tt, tt, tt, tt, tt, tt, tt, tt, tt, tt, ff, ff, ff, ff, ff, ff, ff, ff, ff, ff, ff, ff] rfl rfl (take_ofW HT_.out HW_.out (by kernel_rfl)) (by decide) (quiet_val (by rfl) ?_) ?_ ?_
  · rintro _ w_ ⟨hHB, hHG, hHX, hHV1, hHV2, hHY, hHPX, hHPY, hHLN, hHQ, hHRQ, hHQ2, hHF, hHRF, hHF2⟩
    have HX := Aside0.mk hHX
    clear hHX
    have cHX_n := cell_no HX.out
    exact run_loadH (.tmp 11) rfl rfl HX.out HM.out
  rotate_left
  · simp only [Act.put, List.setIfInBounds_toArray, List.set_cons_zero, List.set_cons_succ, i64_w, i32_w, List.getElem_toArray, List.getElem_cons_succ, List.getElem_cons_zero]
    rfl
  refine q_take (i := 29) (N := some 101) (v := .bool (rightP G I N no P1 P2)) (a' := ?_) #[tt, tt, tt, tt, tt, tt, tt, tt, tt, tt, tt, tt, tt, tt, tt, tt, tt, tt, tt, tt, tt, tt, tt, tt, tt, tt, tt, tt, tt, tt, ff, ff, ff, ff, ff, ff, ff, ff, ff, ff, ff] rfl rfl (take_ofW HT_.out HW_.out (by kernel_rfl)) (by decide) (quiet_call Try.func16 (by kernel_rfl) rfl #[(.agg #[.int .i64 G, .int .i64 I, .int .i64 N]), headV no P1 P2] (by rfl) rfl (by (try simp only [List.map_toArray, List.map_cons, List.map_nil]); first | done | rfl) ?_) ?_ ?_
  · rintro _ w_ ⟨hHB, hHG, hHX, hHV1, hHV2, hHY, hHPX, hHPY, hHLN, hHQ, hHRQ, hHQ2, hHF, hHRF, hHF2⟩
    have HB := Aside0.mk hHB
    have HG := Aside0.mk hHG
    have HX := Aside0.mk hHX
    have HV1 := Aside0.mk hHV1
    have HV2 := Aside0.mk hHV2
    have HY := Aside0.mk hHY
    have HPX := Aside0.mk hHPX
    have HPY := Aside0.mk hHPY
    have HLN := Aside0.mk hHLN
    have HQ := Aside0.mk hHQ
    have HRQ := Aside0.mk hHRQ
    have HQ2 := Aside0.mk hHQ2
    have HF := Aside0.mk hHF
    have HRF := Aside0.mk hHRF
    have HF2 := Aside0.mk hHF2
    with_reducible refine (right_any G I N no P1 P2 _ HMM.out).mono ?_
    rintro e w_2 ⟨rfl, hb⟩
    exact ⟨rfl, ⟨below_step HB.out hb, blk_below HG.out hb, HeadAt.below HX.out hb, Row8.below HV1.out hb, Row8.below HV2.out hb, blk_below HY.out hb, Row8.below HPX.out hb, Row8.below HPY.out hb, LentAt.below HLN.out hb, HeadAt.below HQ.out hb, RecOk.below HRQ.out hb, blk_below HQ2.out hb, HeadAt.below HF.out hb, RecOk.below HRF.out hb, blk_below HF2.out hb⟩⟩
  rotate_left
  · simp only [Act.put, List.setIfInBounds_toArray, List.set_cons_zero, List.set_cons_succ, i64_w, i32_w, List.getElem_toArray, List.getElem_cons_succ, List.getElem_cons_zero]
    rfl
  refine q_take (i := 30) (N := some 102) (v := ?_) (a' := ?_) #[tt, tt, tt, tt, tt, tt, tt, tt, tt, tt, tt, tt, tt, tt, tt, tt, tt, tt, tt, tt, tt, tt, tt, tt, tt, tt, tt, tt, tt, tt, tt, ff, ff, ff, ff, ff, ff, ff, ff, ff, ff] rfl rfl (take_ofW HT_.out HW_.out (by kernel_rfl)) (by decide) (quiet_val (by rfl) ?_) ?_ ?_
  rotate_left
  · rintro _ w_ ⟨hHB, hHG, hHX, hHV1, hHV2, hHY, hHPX, hHPY, hHLN, hHQ, hHRQ, hHQ2, hHF, hHRF, hHF2⟩
    have HG := Aside0.mk hHG
    clear hHG
    have cHG_0 := c3_0 HG.out
    have cHG_1 := c3_1 HG.out
    have cHG_2 := c3_2 HG.out
    go_simp
    with_reducible rfl
  rotate_left
  · simp only [Act.put, List.setIfInBounds_toArray, List.set_cons_zero, List.set_cons_succ, i64_w, i32_w, List.getElem_toArray, List.getElem_cons_succ, List.getElem_cons_zero]
    rfl
  refine q_take (i := 31) (N := some 103) (v := ?_) (a' := ?_) #[tt, tt, tt, tt, tt, tt, tt, tt, tt, tt, tt, tt, tt, tt, tt, tt, tt, tt, tt, tt, tt, tt, tt, tt, tt, tt, tt, tt, tt, tt, tt, tt, ff, ff, ff, ff, ff, ff, ff, ff, ff] rfl rfl (take_ofW HT_.out HW_.out (by kernel_rfl)) (by decide) (quiet_val (by rfl) ?_) ?_ ?_
  rotate_left
  · rintro _ w_ ⟨hHB, hHG, hHX, hHV1, hHV2, hHY, hHPX, hHPY, hHLN, hHQ, hHRQ, hHQ2, hHF, hHRF, hHF2⟩
    have HY := Aside0.mk hHY
    clear hHY
    have cHY_0 := c3_0 HY.out
    have cHY_1 := c3_1 HY.out
    have cHY_2 := c3_2 HY.out
    go_simp
    with_reducible rfl
  rotate_left
  · simp only [Act.put, List.setIfInBounds_toArray, List.set_cons_zero, List.set_cons_succ, i64_w, i32_w, List.getElem_toArray, List.getElem_cons_succ, List.getElem_cons_zero]
    rfl
  refine q_take (i := 32) (N := some 104) (v := .bool (rightP G I N no P1 P2)) (a' := ?_) #[tt, tt, tt, tt, tt, tt, tt, tt, tt, tt, tt, tt, tt, tt, tt, tt, tt, tt, tt, tt, tt, tt, tt, tt, tt, tt, tt, tt, tt, tt, tt, tt, tt, ff, ff, ff, ff, ff, ff, ff, ff] rfl rfl (take_ofW HT_.out HW_.out (by kernel_rfl)) (by decide) (quiet_call Try.func17 (by kernel_rfl) rfl #[(.agg #[.int .i64 G, .int .i64 I, .int .i64 N]), .agg #[.int .i64 no, .slice B1 16 d1, .slice B2 8 d2]] (by rfl) rfl (by (try simp only [List.map_toArray, List.map_cons, List.map_nil]); first | done | rfl) ?_) ?_ ?_
  · rintro _ w_ ⟨hHB, hHG, hHX, hHV1, hHV2, hHY, hHPX, hHPY, hHLN, hHQ, hHRQ, hHQ2, hHF, hHRF, hHF2⟩
    have HB := Aside0.mk hHB
    have HG := Aside0.mk hHG
    have HX := Aside0.mk hHX
    have HV1 := Aside0.mk hHV1
    have HV2 := Aside0.mk hHV2
    have HY := Aside0.mk hHY
    have HPX := Aside0.mk hHPX
    have HPY := Aside0.mk hHPY
    have HLN := Aside0.mk hHLN
    have HQ := Aside0.mk hHQ
    have HRQ := Aside0.mk hHRQ
    have HQ2 := Aside0.mk hHQ2
    have HF := Aside0.mk hHF
    have HRF := Aside0.mk hHRF
    have HF2 := Aside0.mk hHF2
    with_reducible refine (refRight_n G I N no HMM.out HV1.out HV2.out).mono ?_
    rintro e w_2 ⟨rfl, hb⟩
    exact ⟨rfl, ⟨below_step HB.out hb, blk_below HG.out hb, HeadAt.below HX.out hb, Row8.below HV1.out hb, Row8.below HV2.out hb, blk_below HY.out hb, Row8.below HPX.out hb, Row8.below HPY.out hb, LentAt.below HLN.out hb, HeadAt.below HQ.out hb, RecOk.below HRQ.out hb, blk_below HQ2.out hb, HeadAt.below HF.out hb, RecOk.below HRF.out hb, blk_below HF2.out hb⟩⟩
  rotate_left
  · simp only [Act.put, List.setIfInBounds_toArray, List.set_cons_zero, List.set_cons_succ, i64_w, i32_w, List.getElem_toArray, List.getElem_cons_succ, List.getElem_cons_zero]
    rfl
  refine q_take (i := 33) (N := some 105) (v := .bool false) (a' := ?_) #[tt, tt, tt, tt, tt, tt, tt, tt, tt, tt, tt, tt, tt, tt, tt, tt, tt, tt, tt, tt, tt, tt, tt, tt, tt, tt, tt, tt, tt, tt, tt, tt, tt, tt, ff, ff, ff, ff, ff, ff, ff] rfl rfl (take_ofW HT_.out HW_.out (by kernel_rfl)) (by decide) (quiet_val (by rfl) ?_) ?_ ?_
  · rintro _ w_ ⟨hHB, hHG, hHX, hHV1, hHV2, hHY, hHPX, hHPY, hHLN, hHQ, hHRQ, hHQ2, hHF, hHRF, hHF2⟩
    skip
    go_simp
    try rfl
  rotate_left
  · simp only [Act.put, List.setIfInBounds_toArray, List.set_cons_zero, List.set_cons_succ, i64_w, i32_w, List.getElem_toArray, List.getElem_cons_succ, List.getElem_cons_zero]
    rfl
  refine q_take (i := 34) (N := some 106) (v := ?_) (a' := ?_) #[tt, tt, tt, tt, tt, tt, tt, tt, tt, tt, tt, tt, tt, tt, tt, tt, tt, tt, tt, tt, tt, tt, tt, tt, tt, tt, tt, tt, tt, tt, tt, tt, tt, tt, tt, ff, ff, ff, ff, ff, ff] rfl rfl (take_ofW HT_.out HW_.out (by kernel_rfl)) (by decide) (quiet_val (by rfl) ?_) ?_ ?_
  rotate_left
  · intro _ w_ _
    go_simp
    with_reducible rfl
  rotate_left
  · simp only [Act.put, List.setIfInBounds_toArray, List.set_cons_zero, List.set_cons_succ, i64_w, i32_w, List.getElem_toArray, List.getElem_cons_succ, List.getElem_cons_zero]
    rfl
  refine q_take (i := 35) (N := some 107) (v := ?_) (a' := ?_) #[tt, tt, tt, tt, tt, tt, tt, tt, tt, tt, tt, tt, tt, tt, tt, tt, tt, tt, tt, tt, tt, tt, tt, tt, tt, tt, tt, tt, tt, tt, tt, tt, tt, tt, tt, tt, ff, ff, ff, ff, ff] rfl rfl (take_ofW HT_.out HW_.out (by kernel_rfl)) (by decide) (quiet_val (by rfl) ?_) ?_ ?_
  rotate_left
  · intro _ w_ _
    go_simp
    with_reducible rfl
  rotate_left
  · simp only [Act.put, List.setIfInBounds_toArray, List.set_cons_zero, List.set_cons_succ, i64_w, i32_w, List.getElem_toArray, List.getElem_cons_succ, List.getElem_cons_zero]
    rfl
  refine q_take (i := 36) (N := some 108) (v := ?_) (a' := ?_) #[tt, tt, tt, tt, tt, tt, tt, tt, tt, tt, tt, tt, tt, tt, tt, tt, tt, tt, tt, tt, tt, tt, tt, tt, tt, tt, tt, tt, tt, tt, tt, tt, tt, tt, tt, tt, tt, ff, ff, ff, ff] rfl rfl (take_ofW HT_.out HW_.out (by kernel_rfl)) (by decide) (quiet_val (by rfl) ?_) ?_ ?_
  rotate_left
  · intro _ w_ _
    go_simp
    with_reducible rfl
  rotate_left
  · simp only [Act.put, List.setIfInBounds_toArray, List.set_cons_zero, List.set_cons_succ, i64_w, i32_w, List.getElem_toArray, List.getElem_cons_succ, List.getElem_cons_zero]
    rfl
  refine q_take (i := 37) (N := some 109) (v := ?_) (a' := ?_) #[tt, tt, tt, tt, tt, tt, tt, tt, tt, tt, tt, tt, tt, tt, tt, tt, tt, tt, tt, tt, tt, tt, tt, tt, tt, tt, tt, tt, tt, tt, tt, tt, tt, tt, tt, tt, tt, tt, ff, ff, ff] rfl rfl (take_ofW HT_.out HW_.out (by kernel_rfl)) (by decide) (quiet_val (by rfl) ?_) ?_ ?_
  rotate_left
  · intro _ w_ _
    go_simp
    with_reducible rfl
  rotate_left
  · simp only [Act.put, List.setIfInBounds_toArray, List.set_cons_zero, List.set_cons_succ, i64_w, i32_w, List.getElem_toArray, List.getElem_cons_succ, List.getElem_cons_zero]
    rfl
  refine q_take (i := 38) (N := some 110) (v := .bool true) (a' := ?_) #[tt, tt, tt, tt, tt, tt, tt, tt, tt, tt, tt, tt, tt, tt, tt, tt, tt, tt, tt, tt, tt, tt, tt, tt, tt, tt, tt, tt, tt, tt, tt, tt, tt, tt, tt, tt, tt, tt, tt, ff, ff] rfl rfl (take_ofW HT_.out HW_.out (by kernel_rfl)) (by decide) (quiet_call Try.func18 (by kernel_rfl) rfl #[.slice Lo l4.length cL, .slice A4 l4.length c4] (by rfl) rfl (by (try simp only [List.map_toArray, List.map_cons, List.map_nil]); first | done | rfl) ?_) ?_ ?_
  · rintro _ w_ ⟨hHB, hHG, hHX, hHV1, hHV2, hHY, hHPX, hHPY, hHLN, hHQ, hHRQ, hHQ2, hHF, hHRF, hHF2⟩
    have HB := Aside0.mk hHB
    have HG := Aside0.mk hHG
    have HX := Aside0.mk hHX
    have HV1 := Aside0.mk hHV1
    have HV2 := Aside0.mk hHV2
    have HY := Aside0.mk hHY
    have HPX := Aside0.mk hHPX
    have HPY := Aside0.mk hHPY
    have HLN := Aside0.mk hHLN
    have HQ := Aside0.mk hHQ
    have HRQ := Aside0.mk hHRQ
    have HQ2 := Aside0.mk hHQ2
    have HF := Aside0.mk hHF
    have HRF := Aside0.mk hHRF
    have HF2 := Aside0.mk hHF2
    with_reducible refine (kept_u Lo cL A4 c4 l4 _ HLN.out (Kd.C_below HR4.out HB.out) HC4.out HL4.out).mono ?_
    rintro e w_2 ⟨rfl, hb⟩
    exact ⟨rfl, ⟨below_step HB.out hb, blk_below HG.out hb, HeadAt.below HX.out hb, Row8.below HV1.out hb, Row8.below HV2.out hb, blk_below HY.out hb, Row8.below HPX.out hb, Row8.below HPY.out hb, LentAt.below HLN.out hb, HeadAt.below HQ.out hb, RecOk.below HRQ.out hb, blk_below HQ2.out hb, HeadAt.below HF.out hb, RecOk.below HRF.out hb, blk_below HF2.out hb⟩⟩
  rotate_left
  · simp only [Act.put, List.setIfInBounds_toArray, List.set_cons_zero, List.set_cons_succ, i64_w, i32_w, List.getElem_toArray, List.getElem_cons_succ, List.getElem_cons_zero]
    rfl
  refine q_take (i := 39) (N := some 111) (v := ?_) (a' := ?_) #[tt, tt, tt, tt, tt, tt, tt, tt, tt, tt, tt, tt, tt, tt, tt, tt, tt, tt, tt, tt, tt, tt, tt, tt, tt, tt, tt, tt, tt, tt, tt, tt, tt, tt, tt, tt, tt, tt, tt, tt, ff] rfl rfl (take_ofW HT_.out HW_.out (by kernel_rfl)) (by decide) (quiet_val (by rfl) ?_) ?_ ?_
  rotate_left
  · intro _ w_ _
    go_simp
    with_reducible rfl
  rotate_left
  · simp only [Act.put, List.setIfInBounds_toArray, List.set_cons_zero, List.set_cons_succ, i64_w, i32_w, List.getElem_toArray, List.getElem_cons_succ, List.getElem_cons_zero]
    rfl
  refine q_take (i := 40) (N := some 112) (v := ?_) (a' := ?_) #[tt, tt, tt, tt, tt, tt, tt, tt, tt, tt, tt, tt, tt, tt, tt, tt, tt, tt, tt, tt, tt, tt, tt, tt, tt, tt, tt, tt, tt, tt, tt, tt, tt, tt, tt, tt, tt, tt, tt, tt, tt] rfl rfl (take_ofW HT_.out HW_.out (by kernel_rfl)) (by decide) (quiet_val (by rfl) ?_) ?_ ?_
  rotate_left
  · intro _ w_ _
    go_simp
    with_reducible rfl
  rotate_left
  · simp only [Act.put, List.setIfInBounds_toArray, List.set_cons_zero, List.set_cons_succ, i64_w, i32_w, List.getElem_toArray, List.getElem_cons_succ, List.getElem_cons_zero]
    rfl
  refine q_done (done_of HT_.out (by kernel_rfl)) ?_
  rintro w_ ⟨hHB, hHG, hHX, hHV1, hHV2, hHY, hHPX, hHPY, hHLN, hHQ, hHRQ, hHQ2, hHF, hHRF, hHF2⟩
  have HB := Aside0.mk hHB
  have HG := Aside0.mk hHG
  have HX := Aside0.mk hHX
  have HV1 := Aside0.mk hHV1
  have HV2 := Aside0.mk hHV2
  have HY := Aside0.mk hHY
  have HPX := Aside0.mk hHPX
  have HPY := Aside0.mk hHPY
  have HLN := Aside0.mk hHLN
  have HQ := Aside0.mk hHQ
  have HRQ := Aside0.mk hHRQ
  have HQ2 := Aside0.mk hHQ2
  have HF := Aside0.mk hHF
  have HRF := Aside0.mk hHRF
  have HF2 := Aside0.mk hHF2
  clear hHB hHG hHX hHV1 hHV2 hHY hHPX hHPY hHLN hHQ hHRQ hHQ2 hHF hHRF hHF2
  have cHG_0 := c3_0 HG.out
  have cHG_1 := c3_1 HG.out
  have cHG_2 := c3_2 HG.out
  have cHX_n := cell_no HX.out
  have cHY_0 := c3_0 HY.out
  have cHY_1 := c3_1 HY.out
  have cHY_2 := c3_2 HY.out
  have cHQ_n := cell_no HQ.out
  have cHQ2_0 := c3_0 HQ2.out
  have cHQ2_1 := c3_1 HQ2.out
  have cHQ2_2 := c3_2 HQ2.out
  have cHF_n := cell_no HF.out
  have cHF2_0 := c3_0 HF2.out
  have cHF2_1 := c3_1 HF2.out
  have cHF2_2 := c3_2 HF2.out
  by_cases hE : EX = 0
  · have hE1 : (EX != 0) = false := bne_eq_false_iff_eq.mpr hE
    have hE2 := Aside0.mk hE
    go_wp2_with (first
        | (go_at_call 11; go_loud ((with_reducible refine (cGet2.out hE2.out _ _ _ HPX.out.C HPX.out.le).mono ?_); rintro e w_ ⟨rfl, hb⟩; clear cHG_0 cHG_1 cHG_2 cHX_n cHY_0 cHY_1 cHY_2 cHQ_n cHQ2_0 cHQ2_1 cHQ2_2 cHF_n cHF2_0 cHF2_1 cHF2_2; replace HB := Aside0.mk (below_step HB.out hb); replace HG := Aside0.mk (blk_below HG.out hb); replace HX := Aside0.mk (HeadAt.below HX.out hb); replace HV1 := Aside0.mk (Row8.below HV1.out hb); replace HV2 := Aside0.mk (Row8.below HV2.out hb); replace HY := Aside0.mk (blk_below HY.out hb); replace HPX := Aside0.mk (Row8.below HPX.out hb); replace HPY := Aside0.mk (Row8.below HPY.out hb); replace HLN := Aside0.mk (LentAt.below HLN.out hb); replace HQ := Aside0.mk (HeadAt.below HQ.out hb); replace HRQ := Aside0.mk (RecOk.below HRQ.out hb); replace HQ2 := Aside0.mk (blk_below HQ2.out hb); replace HF := Aside0.mk (HeadAt.below HF.out hb); replace HRF := Aside0.mk (RecOk.below HRF.out hb); replace HF2 := Aside0.mk (blk_below HF2.out hb); clear hb; have cHG_0 := c3_0 HG.out; have cHG_1 := c3_1 HG.out; have cHG_2 := c3_2 HG.out; have cHX_n := cell_no HX.out; have cHY_0 := c3_0 HY.out; have cHY_1 := c3_1 HY.out; have cHY_2 := c3_2 HY.out; have cHQ_n := cell_no HQ.out; have cHQ2_0 := c3_0 HQ2.out; have cHQ2_1 := c3_1 HQ2.out; have cHQ2_2 := c3_2 HQ2.out; have cHF_n := cell_no HF.out; have cHF2_0 := c3_0 HF2.out; have cHF2_1 := c3_1 HF2.out; have cHF2_2 := c3_2 HF2.out))
        | ((with_reducible refine gate_dst (N := 26) rfl ?_); go_loud (refine box_event ?hg (N := 26) ?hd (cs := (headC 0 (zeros 16) (zeros 8)).toArray) (t := 28) ?hr ?_; (case hd => rfl); (case hg => rfl); (case hr => kernel_rfl); intro g26 hg w_ hx hb; have NE_HG_HU := Aside0.mk (new_ne HG.out hg); have NE_HX_HU := Aside0.mk (new_ne HX.out hg); have NE_HY_HU := Aside0.mk (new_ne HY.out hg); have NE_HQ_HU := Aside0.mk (new_ne HQ.out hg); have NE_HQ2_HU := Aside0.mk (new_ne HQ2.out hg); have NE_HF_HU := Aside0.mk (new_ne HF.out hg); have NE_HF2_HU := Aside0.mk (new_ne HF2.out hg); have GE_HU := Aside0.mk (show w.heap.size ≤ g26 by have := HB.out.size; omega); clear hg; clear cHG_0 cHG_1 cHG_2 cHX_n cHY_0 cHY_1 cHY_2 cHQ_n cHQ2_0 cHQ2_1 cHQ2_2 cHF_n cHF2_0 cHF2_1 cHF2_2; replace HB := Aside0.mk (below_step HB.out hb); replace HG := Aside0.mk (blk_below HG.out hb); replace HX := Aside0.mk (HeadAt.below HX.out hb); replace HV1 := Aside0.mk (Row8.below HV1.out hb); replace HV2 := Aside0.mk (Row8.below HV2.out hb); replace HY := Aside0.mk (blk_below HY.out hb); replace HPX := Aside0.mk (Row8.below HPX.out hb); replace HPY := Aside0.mk (Row8.below HPY.out hb); replace HLN := Aside0.mk (LentAt.below HLN.out hb); replace HQ := Aside0.mk (HeadAt.below HQ.out hb); replace HRQ := Aside0.mk (RecOk.below HRQ.out hb); replace HQ2 := Aside0.mk (blk_below HQ2.out hb); replace HF := Aside0.mk (HeadAt.below HF.out hb); replace HRF := Aside0.mk (RecOk.below HRF.out hb); replace HF2 := Aside0.mk (blk_below HF2.out hb); clear hb; have HU : Aside0 (HeadAt w_ g26 0 (zeros 16) (zeros 8)) := ⟨hx⟩; clear hx; have cHG_0 := c3_0 HG.out; have cHG_1 := c3_1 HG.out; have cHG_2 := c3_2 HG.out; have cHX_n := cell_no HX.out; have cHY_0 := c3_0 HY.out; have cHY_1 := c3_1 HY.out; have cHY_2 := c3_2 HY.out; have cHQ_n := cell_no HQ.out; have cHQ2_0 := c3_0 HQ2.out; have cHQ2_1 := c3_1 HQ2.out; have cHQ2_2 := c3_2 HQ2.out; have cHF_n := cell_no HF.out; have cHF2_0 := c3_0 HF2.out; have cHF2_1 := c3_1 HF2.out; have cHF2_2 := c3_2 HF2.out; have cHU_n := cell_no HU.out))
        | ((refine gate_store (t := 28) (p := 26) rfl ?_); go_loud (refine store_all (P := Try.prog) (t := 28) (p := 26) (v := .tmp 120) ?hgd ?hN ?ho g26 (headC no P1 P2) ?hx ?hy _ _ HU.out (hi_head HM.out) (hold_head HZ.out HM.out) (head_one _ _ _) w.heap.size w HB.out GE_HU.out ?_; (case hgd => rfl); (case hN => rfl); (case ho => rfl); (case hx => rfl); (case hy => rfl); intro w_ hx_ ho_ hb_; clear cHG_0 cHG_1 cHG_2 cHX_n cHY_0 cHY_1 cHY_2 cHQ_n cHQ2_0 cHQ2_1 cHQ2_2 cHF_n cHF2_0 cHF2_1 cHF2_2 cHU_n; replace HG := Aside0.mk ((ho_ _ NE_HG_HU.out).trans HG.out); replace HX := Aside0.mk (HeadAt.other HX.out ho_ NE_HX_HU.out); replace HV1 := Aside0.mk (Row8.other HV1.out HU.out (by decide) ho_); replace HV2 := Aside0.mk (Row8.other HV2.out HU.out (by decide) ho_); replace HY := Aside0.mk ((ho_ _ NE_HY_HU.out).trans HY.out); replace HPX := Aside0.mk (Row8.other HPX.out HU.out (by decide) ho_); replace HPY := Aside0.mk (Row8.other HPY.out HU.out (by decide) ho_); replace HLN := Aside0.mk (LentAt.other HLN.out HU.out (by decide) ho_); replace HQ := Aside0.mk (HeadAt.other HQ.out ho_ NE_HQ_HU.out); replace HRQ := Aside0.mk (RecOk.other HRQ.out HU.out (by decide) ho_); replace HQ2 := Aside0.mk ((ho_ _ NE_HQ2_HU.out).trans HQ2.out); replace HF := Aside0.mk (HeadAt.other HF.out ho_ NE_HF_HU.out); replace HRF := Aside0.mk (RecOk.other HRF.out HU.out (by decide) ho_); replace HF2 := Aside0.mk ((ho_ _ NE_HF2_HU.out).trans HF2.out); clear HB; have HB := Aside0.mk hb_; clear hb_; clear HU; have HU : Aside0 (HeadAt w_ g26 no P1 P2) := ⟨hx_⟩; clear hx_ ho_; have cHG_0 := c3_0 HG.out; have cHG_1 := c3_1 HG.out; have cHG_2 := c3_2 HG.out; have cHX_n := cell_no HX.out; have cHY_0 := c3_0 HY.out; have cHY_1 := c3_1 HY.out; have cHY_2 := c3_2 HY.out; have cHQ_n := cell_no HQ.out; have cHQ2_0 := c3_0 HQ2.out; have cHQ2_1 := c3_1 HQ2.out; have cHQ2_2 := c3_2 HQ2.out; have cHF_n := cell_no HF.out; have cHF2_0 := c3_0 HF2.out; have cHF2_1 := c3_1 HF2.out; have cHF2_2 := c3_2 HF2.out; have cHU_n := cell_no HU.out))
        | ((with_reducible refine gate_dst (N := 122) rfl ?_); go_loud (refine wl_head ?hw (.tmp 26) ?ho ?hx HU.out HM.out ?_; (case hw => first | rfl | (go_simp; done)); (case ho => rfl); (case hx => rfl)))
        | ((with_reducible refine gate_dst (N := 123) rfl ?_); go_loud (refine wl_head ?hw (.tmp 11) ?ho ?hx HX.out HM.out ?_; (case hw => first | rfl | (go_simp; done)); (case ho => rfl); (case hx => rfl)))
        | ((with_reducible refine gate_dst (N := 124) rfl ?_); go_loud (refine wl_eqh ?hw (.tmp 122) (.tmp 123) (t2 := 28) ?ho ?hx ?hy HM.out HM.out (eqAny no P1 P2) ?_; (case hw => first | rfl | (go_simp; done)); (case ho => rfl); (case hx => rfl); (case hy => rfl)))
        | (go_at_call 19; go_loud ((with_reducible refine (known_any _).mono ?_); rintro e w_ ⟨rfl, hb⟩; clear cHG_0 cHG_1 cHG_2 cHX_n cHY_0 cHY_1 cHY_2 cHQ_n cHQ2_0 cHQ2_1 cHQ2_2 cHF_n cHF2_0 cHF2_1 cHF2_2 cHU_n; replace HB := Aside0.mk (below_step HB.out hb); replace HG := Aside0.mk (blk_below HG.out hb); replace HX := Aside0.mk (HeadAt.below HX.out hb); replace HV1 := Aside0.mk (Row8.below HV1.out hb); replace HV2 := Aside0.mk (Row8.below HV2.out hb); replace HY := Aside0.mk (blk_below HY.out hb); replace HPX := Aside0.mk (Row8.below HPX.out hb); replace HPY := Aside0.mk (Row8.below HPY.out hb); replace HLN := Aside0.mk (LentAt.below HLN.out hb); replace HQ := Aside0.mk (HeadAt.below HQ.out hb); replace HRQ := Aside0.mk (RecOk.below HRQ.out hb); replace HQ2 := Aside0.mk (blk_below HQ2.out hb); replace HF := Aside0.mk (HeadAt.below HF.out hb); replace HRF := Aside0.mk (RecOk.below HRF.out hb); replace HF2 := Aside0.mk (blk_below HF2.out hb); replace HU := Aside0.mk (HeadAt.below HU.out hb); clear hb; have cHG_0 := c3_0 HG.out; have cHG_1 := c3_1 HG.out; have cHG_2 := c3_2 HG.out; have cHX_n := cell_no HX.out; have cHY_0 := c3_0 HY.out; have cHY_1 := c3_1 HY.out; have cHY_2 := c3_2 HY.out; have cHQ_n := cell_no HQ.out; have cHQ2_0 := c3_0 HQ2.out; have cHQ2_1 := c3_1 HQ2.out; have cHQ2_2 := c3_2 HQ2.out; have cHF_n := cell_no HF.out; have cHF2_0 := c3_0 HF2.out; have cHF2_1 := c3_1 HF2.out; have cHF2_2 := c3_2 HF2.out; have cHU_n := cell_no HU.out)))
    go_ret
    exact ⟨rfl, HB.out⟩
  · have hE1 : (EX != 0) = true := bne_iff_ne.mpr hE
    go_wp2_with (first
        | (go_at_call 19; go_loud ((with_reducible refine (known_any _).mono ?_); rintro e w_ ⟨rfl, hb⟩; clear cHG_0 cHG_1 cHG_2 cHX_n cHY_0 cHY_1 cHY_2 cHQ_n cHQ2_0 cHQ2_1 cHQ2_2 cHF_n cHF2_0 cHF2_1 cHF2_2; replace HB := Aside0.mk (below_step HB.out hb); replace HG := Aside0.mk (blk_below HG.out hb); replace HX := Aside0.mk (HeadAt.below HX.out hb); replace HV1 := Aside0.mk (Row8.below HV1.out hb); replace HV2 := Aside0.mk (Row8.below HV2.out hb); replace HY := Aside0.mk (blk_below HY.out hb); replace HPX := Aside0.mk (Row8.below HPX.out hb); replace HPY := Aside0.mk (Row8.below HPY.out hb); replace HLN := Aside0.mk (LentAt.below HLN.out hb); replace HQ := Aside0.mk (HeadAt.below HQ.out hb); replace HRQ := Aside0.mk (RecOk.below HRQ.out hb); replace HQ2 := Aside0.mk (blk_below HQ2.out hb); replace HF := Aside0.mk (HeadAt.below HF.out hb); replace HRF := Aside0.mk (RecOk.below HRF.out hb); replace HF2 := Aside0.mk (blk_below HF2.out hb); clear hb; have cHG_0 := c3_0 HG.out; have cHG_1 := c3_1 HG.out; have cHG_2 := c3_2 HG.out; have cHX_n := cell_no HX.out; have cHY_0 := c3_0 HY.out; have cHY_1 := c3_1 HY.out; have cHY_2 := c3_2 HY.out; have cHQ_n := cell_no HQ.out; have cHQ2_0 := c3_0 HQ2.out; have cHQ2_1 := c3_1 HQ2.out; have cHQ2_2 := c3_2 HQ2.out; have cHF_n := cell_no HF.out; have cHF2_0 := c3_0 HF2.out; have cHF2_1 := c3_1 HF2.out; have cHF2_2 := c3_2 HF2.out)))
    go_ret
    exact ⟨rfl, HB.out⟩
end Go.Proofs.Ytonkgfgciegknaa.P