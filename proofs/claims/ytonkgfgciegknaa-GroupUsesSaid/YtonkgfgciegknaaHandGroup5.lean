/-
group.use, UseBlock, UseSlot, walked by hand.
Conditions: none.
-/
import Derived.Test.YtonkgfgciegknaaHandGroup4
namespace Go.Proofs.Ytonkgfgciegknaa.P
open Go.RowKit Go.Proofs.YtonkgfgciegknaaW.PrintWords Go.Proofs.YtonkgfgciegknaaW.PrintLast Go.Proofs.YtonkgfgciegknaaW.PrintMore
attribute [local go_sem] max2_int min2_int max_two min_two max_three min_three max_four min_four
set_option linter.unusedVariables false
set_option linter.unusedSimpArgs false
theorem grown_after {w w1 w2 : World} {g : Nat} (h : Below w.heap.size w w1) (k : w1.grownBy w2 (some g)) : w.grownBy w2 (some g) :=
  ⟨k.os.trans h.os, k.tape.trans h.tape, k.output.trans h.output, Nat.le_trans h.size k.size, fun i hi hn => (k.block i (Nat.lt_of_lt_of_le hi h.size) hn).trans (h.block i hi)⟩
theorem setRow_grown (w : World) (g : Nat) (cs : Array Value) : w.grownBy (w.setRow g cs) (some g) :=
  ⟨rfl, rfl, rfl, by simp [World.setRow], fun k _ hk => setRow_other w g k cs (fun e => hk (by rw [e]))⟩
/-- A copy into a block, whatever lies beside. -/
theorem copy_ev {w : World} {ops : Array Oper} {rest : List Oper} {o : Oper} {a : Act} {Q : Exit → Act → World → Prop} (hgd : o.guard = none) (d s : Operand) (dT sT : TypeId)
    (ho : o.op = .call { callee := .builtin .copy, args := #[d, s], argTypes := #[dT, sT] }) (hu : Try.prog.underlying dT = some (.slice 5))
    (g off dLen dCap : Nat) (A : Option Addr) (sLen sCap : Nat) (hd : a.eval d = .slice (some ⟨g, off, none⟩) dLen dCap) (hs : a.eval s = .slice A sLen sCap)
    (cur : List Value) (t : TypeId) (hg : w.heap[g]? = some (.cells cur.toArray t (0, 0))) (l : List Int) (hl : l.length = sLen) (hC : Kd.C (Kd.int .u8) w A l.length l) (m : Nat) (hm : m = Nat.min sLen dLen) (hp : 0 < m) (hfit : off + m ≤ cur.length)
    (h : ∀ w', w'.heap[g]? = some (.cells (splice cur off (nums .u8 (l.take m))).toArray t (0, 0)) → (∀ k, k ≠ g → w'.heap[k]? = w.heap[k]?) → w.grownBy w' (some g) → wpList Try.prog ops Q rest (a.put o.dst (goInt m)) w') :
    wpList Try.prog ops Q (o :: rest) a w := by
  have hsz : (Try.prog.info? 5).map (·.size) = some 1 := by kernel_rfl
  have hml : m ≤ l.length := by rw [hl, hm]; exact Nat.min_le_left _ _
  have hcl : (nums .u8 (l.take m)).length = m := by rw [nums_length, List.length_take]; omega
  obtain ⟨ad, rfl, hcells⟩ := reads_cells (Kd.reads_of_C (d := (0 : Int)) hC) m (by omega) hp
  refine wpList_copy_own hgd d s dT sT ho 5 hu hsz g off dLen dCap ad sLen sCap hd hs cur.toArray t hg (nums .u8 (l.take m)) (by rw [hcl, hm]) hcells (by rw [hcl]; simpa using hfit) (nums_one _ _) ?_
  rw [hcl]
  refine h _ ?_ (fun k hk => setRow_other w g k _ hk) (setRow_grown _ _ _)
  have h2 := setRow_heap w g cur.toArray (cur.take off ++ ((nums .u8 (l.take m)) ++ cur.drop (off + m))).toArray t (0, 0) hg
  rw [splice, hcl]
  exact h2
theorem splice_bl {no : Int} {bl sl l : List Int} (hb : bl.length = 16) (hl : l.length = 16) : splice (headC no bl sl) 1 (nums .u8 l) = headC no l sl := by
  simp only [splice, headC, nums_length, hl, List.take_succ_cons, List.take_zero, List.drop_succ_cons, Nat.reduceAdd]
  rw [List.drop_append_of_le_length (by rw [nums_length, hb]; exact Nat.le_refl _), List.drop_of_length_le (by rw [nums_length, hb]; exact Nat.le_refl _)]
  rfl
theorem splice_sl {no : Int} {bl sl l : List Int} (hb : bl.length = 16) (hs : sl.length = 8) (hl : l.length = 8) : splice (headC no bl sl) 17 (nums .u8 l) = headC no bl l := by
  simp only [splice, headC, nums_length, hl, Nat.reduceAdd]
  rw [List.take_succ_cons, List.take_append_of_le_length (by rw [nums_length, hb]; exact Nat.le_refl _), List.take_of_length_le (by rw [nums_length, hb]; exact Nat.le_refl _), List.drop_of_length_le (by simp [nums_length, hb, hs]), List.append_nil]
  rfl
theorem get_C {w : World} {A : Option Addr} {l : List Int} (n c : Nat) (hn : l.length = n) (hC : Kd.C (Kd.int .u8) w A l.length l) (hc : n ≤ c) (hb : Bits.isBytes l) (h16 : n ≤ 16) (i : Int) (hi : i ≤ 9223372036854775807) :
    Calls Try.prog 51 #[.slice A n c, .int .i64 i] w fun e w' => e = .returned (.bool (Bits.bitZ l i)) ∧ Below w.heap.size w w' := by
  subst hn
  refine (bits_Get.calls A c l i _ w hC hc (Bits.Get_eq l hb (by omega) i hi)).mono ?_
  rintro e w' ⟨rfl, ⟨nd, rfl⟩⟩
  exact ⟨rfl, pw_below_drewN (Below.refl _ _) nd⟩
theorem set_C {w : World} {A : Option Addr} {l : List Int} (n c : Nat) (hn : l.length = n) (hC : Kd.C (Kd.int .u8) w A l.length l) (hc : n ≤ c) (h16 : n ≤ 16) (i : Nat) (hi : i < 8 * n) (on : Bool) :
    Calls Try.prog 52 #[.slice A n c, .int .i64 (i : Int), .bool on] w fun e w' => ∃ (A' : Option Addr) (c' : Nat), e = .returned (.tuple #[.slice A' n c', .int .i64 0]) ∧ Row8 w' (.slice A' n c') (Bits.setS l i on) ∧ Below w.heap.size w w' := by
  subst hn
  refine (bits_Set.calls A c l i on _ _ w hC hc (Bits.Set_eq l (by omega) i on hi)).mono ?_
  rintro e w' ⟨v, rfl, hR, hb⟩
  have hr := Row8.of_R hR
  obtain ⟨A', c', rfl, _⟩ := hr.slice
  rw [Bits.setS_length] at hr ⊢
  exact ⟨A', c', rfl, hr, hb⟩
set_option maxHeartbeats 16000000 in
set_option maxRecDepth 100000 in
theorem use_bl (no : Int) (bl sl : List Int) (g i : Nat) (on : Bool) (w : World) (hm : HM bl sl) (hx : HeadAt w g no bl sl) (hi : i < 128) :
    Calls Try.prog 45 #[.slice (some ⟨g, 1, none⟩) 16 16, .int .i64 (i : Int), .bool on] w fun e w' => (Bits.bitS bl i = on ∧ e = .returned (.int .i64 6) ∧ Below w.heap.size w w') ∨ (Bits.bitS bl i ≠ on ∧ e = .returned (.int .i64 0) ∧ HeadAt w' g no (Bits.setS bl i on) sl ∧ w.grownBy w' (some g)) := by
  have HM := Aside0.mk hm.maps
  have HIB := Aside0.mk hm.bytes
  have HI := Aside0.mk hi
  have HL1 := Aside0.mk hm.maps.1
  have HL2 := Aside0.mk hm.maps.2
  have HX := Aside0.mk hx
  have hz := Bits.bitZ_nat bl i
  obtain ⟨b, hb⟩ : ∃ b, b = Bits.bitS bl i := ⟨_, rfl⟩
  rw [← hb] at hz ⊢
  clear hm hx hi hb
  have cHX_n := cell_no HX.out
  have HB := Aside0.mk (Below.refl w.heap.size w)
  go_enter Try.func45, Try.ntmps45
  by_cases h : b = on
  · have hbo : (b == on) = true := beq_iff_eq.mpr h
    go_wp2_with (first
        | (go_at_call 51; go_loud (with_reducible refine (get_C 16 16 HL1.out (C_bl HX.out HM.out) (Nat.le_refl _) HIB.out (by decide) (i : Int) (by have := HI.out; omega)).mono ?_; rintro e w_ ⟨rfl, hb⟩; clear cHX_n; replace HB := Aside0.mk (below_step HB.out hb); replace HX := Aside0.mk (HeadAt.below HX.out hb); clear hb; have cHX_n := cell_no HX.out)))
    go_ret
    exact .inl ⟨h, rfl, HB.out⟩
  · have hbo : (b == on) = false := beq_eq_false_iff_ne.mpr h
    go_wp2_with (first
        | (go_at_call 51; go_loud (with_reducible refine (get_C 16 16 HL1.out (C_bl HX.out HM.out) (Nat.le_refl _) HIB.out (by decide) (i : Int) (by have := HI.out; omega)).mono ?_; rintro e w_ ⟨rfl, hb⟩; clear cHX_n; replace HB := Aside0.mk (below_step HB.out hb); replace HX := Aside0.mk (HeadAt.below HX.out hb); clear hb; have cHX_n := cell_no HX.out))
        | (go_at_call 52; go_loud (with_reducible refine (set_C 16 16 HL1.out (C_bl HX.out HM.out) (Nat.le_refl _) (by decide) i HI.out on).mono ?_; rintro e w_ ⟨A', c', rfl, hrow, hb⟩; clear cHX_n; replace HB := Aside0.mk (below_step HB.out hb); replace HX := Aside0.mk (HeadAt.below HX.out hb); clear hb; have HROW := Aside0.mk hrow; clear hrow; have cHX_n := cell_no HX.out))
        | ((with_reducible refine gate_builtin (b := .copy) (xs := #[.tmp 21, .tmp 22]) rfl ?_); go_loud (refine copy_ev ?hgd (.tmp 21) (.tmp 22) 24 24 ?ho Try.underlying24 g 1 16 16 A' 16 c' ?hd ?hs _ _ HX.out (Bits.setS bl i on) (by rw [Bits.setS_length]; exact HL1.out) HROW.out.C 16 ?hm (by decide) (by rw [headC_length HM.out]; decide) ?_; (case hgd => rfl); (case ho => rfl); (case hd => rfl); (case hs => rfl); (case hm => rfl); intro w9 hx9 ho9 hg9; clear HROW; have HG9 := Aside0.mk (grown_after HB.out hg9); have HX9 := Aside0.mk hx9; clear hx9 ho9 hg9)))
    go_ret
    refine .inr ⟨h, rfl, ?_, HG9.out⟩
    have hq := HX9.out
    rw [List.take_of_length_le (by rw [Bits.setS_length, HM.out.1]; decide), splice_bl HM.out.1 (by rw [Bits.setS_length]; exact HM.out.1)] at hq
    exact hq
set_option maxHeartbeats 16000000 in
set_option maxRecDepth 100000 in
theorem use_sl (no : Int) (bl sl : List Int) (g i : Nat) (on : Bool) (w : World) (hm : HM bl sl) (hx : HeadAt w g no bl sl) (hi : i < 64) :
    Calls Try.prog 45 #[.slice (some ⟨g, 17, none⟩) 8 8, .int .i64 (i : Int), .bool on] w fun e w' => (Bits.bitS sl i = on ∧ e = .returned (.int .i64 6) ∧ Below w.heap.size w w') ∨ (Bits.bitS sl i ≠ on ∧ e = .returned (.int .i64 0) ∧ HeadAt w' g no bl (Bits.setS sl i on) ∧ w.grownBy w' (some g)) := by
  have HM := Aside0.mk hm.maps
  have HIB := Aside0.mk hm.bytes2
  have HI := Aside0.mk hi
  have HL1 := Aside0.mk hm.maps.1
  have HL2 := Aside0.mk hm.maps.2
  have HX := Aside0.mk hx
  have hz := Bits.bitZ_nat sl i
  obtain ⟨b, hb⟩ : ∃ b, b = Bits.bitS sl i := ⟨_, rfl⟩
  rw [← hb] at hz ⊢
  clear hm hx hi hb
  have cHX_n := cell_no HX.out
  have HB := Aside0.mk (Below.refl w.heap.size w)
  go_enter Try.func45, Try.ntmps45
  by_cases h : b = on
  · have hbo : (b == on) = true := beq_iff_eq.mpr h
    go_wp2_with (first
        | (go_at_call 51; go_loud (with_reducible refine (get_C 8 8 HL2.out (C_sl HX.out HM.out) (Nat.le_refl _) HIB.out (by decide) (i : Int) (by have := HI.out; omega)).mono ?_; rintro e w_ ⟨rfl, hb⟩; clear cHX_n; replace HB := Aside0.mk (below_step HB.out hb); replace HX := Aside0.mk (HeadAt.below HX.out hb); clear hb; have cHX_n := cell_no HX.out)))
    go_ret
    exact .inl ⟨h, rfl, HB.out⟩
  · have hbo : (b == on) = false := beq_eq_false_iff_ne.mpr h
    go_wp2_with (first
        | (go_at_call 51; go_loud (with_reducible refine (get_C 8 8 HL2.out (C_sl HX.out HM.out) (Nat.le_refl _) HIB.out (by decide) (i : Int) (by have := HI.out; omega)).mono ?_; rintro e w_ ⟨rfl, hb⟩; clear cHX_n; replace HB := Aside0.mk (below_step HB.out hb); replace HX := Aside0.mk (HeadAt.below HX.out hb); clear hb; have cHX_n := cell_no HX.out))
        | (go_at_call 52; go_loud (with_reducible refine (set_C 8 8 HL2.out (C_sl HX.out HM.out) (Nat.le_refl _) (by decide) i HI.out on).mono ?_; rintro e w_ ⟨A', c', rfl, hrow, hb⟩; clear cHX_n; replace HB := Aside0.mk (below_step HB.out hb); replace HX := Aside0.mk (HeadAt.below HX.out hb); clear hb; have HROW := Aside0.mk hrow; clear hrow; have cHX_n := cell_no HX.out))
        | ((with_reducible refine gate_builtin (b := .copy) (xs := #[.tmp 21, .tmp 22]) rfl ?_); go_loud (refine copy_ev ?hgd (.tmp 21) (.tmp 22) 24 24 ?ho Try.underlying24 g 17 8 8 A' 8 c' ?hd ?hs _ _ HX.out (Bits.setS sl i on) (by rw [Bits.setS_length]; exact HL2.out) HROW.out.C 8 ?hm (by decide) (by rw [headC_length HM.out]; decide) ?_; (case hgd => rfl); (case ho => rfl); (case hd => rfl); (case hs => rfl); (case hm => rfl); intro w9 hx9 ho9 hg9; clear HROW; have HG9 := Aside0.mk (grown_after HB.out hg9); have HX9 := Aside0.mk hx9; clear hx9 ho9 hg9)))
    go_ret
    refine .inr ⟨h, rfl, ?_, HG9.out⟩
    have hq := HX9.out
    rw [List.take_of_length_le (by rw [Bits.setS_length, HM.out.2]; decide), splice_sl HM.out.1 HM.out.2 (by rw [Bits.setS_length]; exact HM.out.2)] at hq
    exact hq
end Go.Proofs.Ytonkgfgciegknaa.P