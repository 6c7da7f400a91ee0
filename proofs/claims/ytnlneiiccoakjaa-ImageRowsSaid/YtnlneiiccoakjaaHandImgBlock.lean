/-
image.Row's blocks, walked by hand: a row's blocks behind others.
Conditions: none.
-/
import Derived.Test.YtnlneiiccoakjaaHandImgRows
import Derived.Laws.CopyOwn
import Derived.StillTailTactics
namespace Go.Proofs.Ytnlneiiccoakjaa.P
open Go.RowKit Go.Proofs.YtnlneiiccoakjaaW.PrintWords Go.Proofs.YtnlneiiccoakjaaW.PrintLast Go.Proofs.YtnlneiiccoakjaaW.PrintMore
attribute [local go_sem] max2_int min2_int max_two min_two max_three min_three max_four min_four
set_option linter.unusedVariables false
set_option linter.unusedSimpArgs false
open Go.Proofs.Ytnlneiiccoakjaa.Num
/-- A row's blocks behind others, if it can be. -/
def blockP (r : S41) (b : List Int) : Option (List Int) :=
  if r.f1 < 1 ∨ 4096 - ((b.length / 256 : Nat) : Int) < r.f1 then none
  else if r.f0 = 1 then (if r.f2.length = 256 * r.f1.toNat then some (b ++ r.f2) else none)
  else if r.f0 = 2 then (if b = [] then none else some (b ++ (List.replicate r.f1.toNat (b.drop (b.length - 256))).flatten))
  else some (b ++ List.replicate (256 * r.f1.toNat) 0)
theorem reads_cells_ {w : World} {A : Option Addr} {l : List Int} (h : (Kd.int .u8).C w A l.length l) (m : Nat) (hm : m ≤ l.length) (hp : 0 < m) : ∃ ad, A = some ad ∧ ∀ (j : Nat) (v : Value), (nums .u8 (l.take m))[j]? = some v → w.cell? (ad.add j) = some v := by
  obtain ⟨_, _, h3⟩ := Kd.reads_of_C (d := (0 : Int)) h
  obtain ⟨ad, e, hc⟩ := h3 (by omega)
  refine ⟨ad, e, fun j v hv => ?_⟩
  have hj : j < (nums .u8 (l.take m)).length := (List.getElem?_eq_some_iff.mp hv).1
  rw [nums_length, List.length_take] at hj
  have := hc j (by omega)
  rw [this, ← hv, nums, List.getElem?_map, List.getElem?_take, if_pos (by omega)]
  simp [show j < l.length by omega]
theorem nums_one_ (k : IntKind) (l : List Int) : ∀ v ∈ nums k l, v.oneCell' = true := by
  intro v hv
  obtain ⟨x, _, rfl⟩ := List.mem_map.mp hv
  rfl
theorem setRow_grown (w : World) (g : Nat) (cs : Array Value) : w.grownBy (w.setRow g cs) (some g) :=
  ⟨rfl, rfl, rfl, by simp [World.setRow], fun k _ hk => setRow_other w g k cs (fun e => hk (by rw [e]))⟩
/-- Bytes are copied into a block, at any place of it: all other blocks stay. -/
theorem copy_at {w : World} {ops : Array Oper} {rest : List Oper} {o : Oper} {a : Act} {Q : Exit → Act → World → Prop} (hgd : o.guard = none) (d s : Operand) (dT sT : TypeId)
    (ho : o.op = .call { callee := .builtin .copy, args := #[d, s], argTypes := #[dT, sT] }) (hu : Try.prog.underlying dT = some (.slice 5))
    (g off dLen dCap : Nat) (A : Option Addr) (sLen sCap : Nat) (hd : a.eval d = .slice (some ⟨g, off, none⟩) dLen dCap) (hs : a.eval s = .slice A sLen sCap)
    (cur : List Int) (t : TypeId) (hg : w.heap[g]? = some (.cells (nums .u8 cur).toArray t (0, 0))) (l : List Int) (hl : l.length = sLen) (hC : Kd.C (Kd.int .u8) w A l.length l) (m : Nat) (hm : m = Nat.min sLen dLen) (hp : 0 < m) (hfit : off + m ≤ cur.length)
    (h : ∀ w', w'.heap[g]? = some (.cells (nums .u8 (splice cur off (l.take m))).toArray t (0, 0)) → (∀ k, k ≠ g → w'.heap[k]? = w.heap[k]?) → w.grownBy w' (some g) → wpList Try.prog ops Q rest (a.put o.dst (goInt m)) w') :
    wpList Try.prog ops Q (o :: rest) a w := by
  have hsz : (Try.prog.info? 5).map (·.size) = some 1 := by kernel_rfl
  have hml : m ≤ l.length := by rw [hl, hm]; exact Nat.min_le_left _ _
  have hcl : (nums .u8 (l.take m)).length = m := by rw [nums_length, List.length_take]; omega
  obtain ⟨ad, rfl, hcells⟩ := reads_cells_ hC m (by omega) hp
  refine wpList_copy_own hgd d s dT sT ho 5 hu hsz g off dLen dCap ad sLen sCap hd hs (nums .u8 cur).toArray t hg (nums .u8 (l.take m)) (by rw [hcl, hm]) hcells (by rw [hcl, List.size_toArray, nums_length]; exact hfit) (nums_one_ _ _) ?_
  rw [hcl]
  refine h _ ?_ (fun k hk => setRow_other w g k _ hk) (setRow_grown _ _ _)
  have h2 := setRow_heap w g (nums .u8 cur).toArray ((nums .u8 cur).take off ++ ((nums .u8 (l.take m)) ++ (nums .u8 cur).drop (off + m))).toArray t (0, 0) hg
  have e : nums .u8 (splice cur off (l.take m)) = (nums .u8 cur).take off ++ ((nums .u8 (l.take m)) ++ (nums .u8 cur).drop (off + m)) := by
    have hlm : (l.take m).length = m := by rw [List.length_take]; omega
    simp only [splice, nums, List.map_append, List.map_take, List.map_drop, hlm]
  rw [e]
  exact h2
theorem own_block {w : World} {base : Nat} {e : TypeId} {g n : Nat} {xs : List Value} (h : w.ownsRow base e 1 (.slice (some ⟨g, 0, none⟩) n n) n xs) (hn : 0 < n ∨ True) : w.heap[g]? = some (.cells xs.toArray e (0, 0)) := by
  rcases h.2 with ⟨h', _⟩ | ⟨g', cap', cur, h', _, hg, _, _, hcs, htake⟩
  · simp at h'
  · simp only [Value.slice.injEq, Option.some.injEq, Addr.mk.injEq, and_true, true_and] at h'
    obtain ⟨rfl, rfl⟩ := h'
    rw [List.take_of_length_le (by simp; omega)] at htake
    rw [hg, ← htake]
/-- Bytes of 0 are made. -/
theorem make_zeros {w : World} {ops : Array Oper} {rest : List Oper} {o : Oper} {a : Act} {Q : Exit → Act → World → Prop} (hgd : o.guard = none) (x y : Operand) (ho : o.op = .makeSlice 22 x y) (n : Nat) (hx : a.eval x = .int .i64 n) (hy : a.eval y = .int .i64 n) (hn : n ≤ 281474976710656)
    (h : ∀ g, g = w.heap.size → ∀ w', w'.heap[g]? = some (.cells (nums .u8 (List.replicate n 0)).toArray 5 (0, 0)) → Below w.heap.size w w' → wpList Try.prog ops Q rest (a.put o.dst (.slice (some ⟨g, 0, none⟩) n n)) w') :
    wpList Try.prog ops Q (o :: rest) a w := by
  obtain ⟨i0, hi, hz, hsz, hby⟩ := info_parts info5
  refine wpList_make_full w hgd x y 22 ho w.heap.size 5 i0 (.int .u8 0) 1 Try.underlying22 hi hz hsz .i64 .i64 (n : Int) (n : Int) n hx hy rfl rfl (by rw [hby]; omega) (by unfold maxLen; omega) (Nat.le_refl _) ?_
  intro w' hown hg
  have hb := own_block hown (.inr trivial)
  have e : (madeCells (Value.int .u8 0).cells (n * 1)).toList = nums .u8 (List.replicate n 0) := by
    rw [Nat.mul_one]
    show (madeCells #[Value.int .u8 0] n).toList = _
    rw [toList_madeCells_one]
    simp [nums]
  rw [e] at hb
  exact h _ rfl w' hb ((Below.refl _ _).grown hg (Nat.le_refl _) (fun k hk => by cases hk))
-- WALK
theorem room_reads {w : World} {g n : Nat} {room : List Int} (h : w.heap[g]? = some (.cells (nums .u8 room).toArray 5 (0, 0))) (hl : room.length = n) (hle : n ≤ 9223372036854775807) : (Kd.int .u8).C w (some ⟨g, 0, none⟩) n room := by
  subst hl
  refine Kd.C_of_reads (d := (0 : Int)) (h1 := fun _ => rfl) ⟨rfl, hle, fun _ => ⟨⟨g, 0, none⟩, rfl, fun j hj => ?_⟩⟩
  rw [Addr.add_lit, Nat.zero_add, blk_cell h, List.getElem?_toArray, nums, List.getElem?_map, List.getElem?_eq_getElem hj]
  simp [hj]
theorem cut_own (g n k : Nat) (hk : k < n) (W : World) : (Instr.slice 22 (.slice (some ⟨g, 0, none⟩) n n) (some (.int .i64 (k : Int))) none none).run Try.prog W = .ok (.slice (some ⟨g, k, none⟩) (n - k) (n - k)) W := by
  obtain ⟨i0, hi, _, hsz, _⟩ := info_parts info5
  have hel : Try.prog.elem 22 = 5 := by simp [Program.elem, Try.underlying22]
  have hu : Try.prog.underlying 22 = some (.slice (Try.prog.elem 22)) := by rw [hel]; exact Try.underlying22
  rw [run_slice_l W 22 (some ⟨g, 0, none⟩) n n hu .i64 (k : Int) (by omega) (by omega), hel]
  simp [sizeOf, typeInfo, hi, hsz, sliced, Result.andThen, Addr.add_lit, show ¬ n = k by omega]
theorem splice_whole (n : Nat) (l : List Int) (h : l.length = n) : splice (List.replicate n 0) 0 (l.take n) = l := by
  rw [List.take_of_length_le (by omega)]
  exact splice_all _ _ (by rw [h, List.length_replicate])
/-- A row of n bytes that is filled with y up to place i. -/
def fillP (i n : Nat) (y : List Int) : List Int := (List.replicate i y).flatten ++ List.replicate (n - 256 * i) 0
theorem flat_length {y : List Int} (hy : y.length = 256) (i : Nat) : ((List.replicate i y).flatten).length = 256 * i := by
  simp [hy, Nat.mul_comm]
theorem fillP_length {i n : Nat} {y : List Int} (hy : y.length = 256) (hi : 256 * i ≤ n) : (fillP i n y).length = n := by
  rw [fillP, List.length_append, flat_length hy, List.length_replicate]
  omega
theorem fillP_succ {i n : Nat} {y : List Int} (hy : y.length = 256) (hi : 256 * i + 256 ≤ n) : splice (fillP i n y) (256 * i) y = fillP (i + 1) n y := by
  have hl := flat_length hy i
  simp only [splice, fillP]
  rw [List.take_left' hl, List.replicate_succ', List.flatten_append, List.append_assoc, hy, ← List.drop_drop, List.drop_left' hl, List.drop_replicate]
  simp only [List.flatten_cons, List.flatten_nil, List.append_nil]
  rw [show n - 256 * i - 256 = n - 256 * (i + 1) from by omega]
set_option maxHeartbeats 16000000 in
set_option maxRecDepth 100000 in
theorem row_blocks.calls (r : S41) (b : List Int) (A2 : Option Addr) (c2 : Nat) (u : Value) (w0 w : World) (hB : Below w0.heap.size w0 w) (hr : Kd.C (Kd.int .u8) w A2 r.f2.length r.f2) (hc2 : r.f2.length ≤ c2) (ho : Kd.R (Kd.int .u8) 5 w w0.heap.size (fun _ => True) u b) (hm : b.length % 256 = 0) (hl : b.length ≤ 1048576) :
    Calls Try.prog 28 #[.agg #[.int .i64 r.f0, .int .i64 r.f1, .slice A2 r.f2.length c2], u] w fun e w' => (match blockP r b with
      | none => e = .returned (.tuple #[.slice none 0 0, .bool false])
      | some b' => ∃ v, e = .returned (.tuple #[v, .bool true]) ∧ Kd.R (Kd.int .u8) 5 w' w0.heap.size (fun _ => True) v b') ∧ Below w0.heap.size w0 w' := by
  have HB := Aside0.mk (Below.refl w.heap.size w)
  have HW := Aside0.mk hB
  have HU0 := Aside0.mk ho
  obtain ⟨Bu, cu, e, hcu, hCu⟩ := Kd.R_reads ho
  have HCU := Aside0.mk (⟨hCu, hcu⟩ : Kd.C (Kd.int .u8) w Bu b.length b ∧ b.length ≤ cu)
  subst e
  have HR := Aside0.mk hr
  have HC2 := Aside0.mk hc2
  have HBL : Aside0 (b.length % 256 = 0 ∧ b.length ≤ 1048576) := ⟨hm, hl⟩
  clear hB hr hc2 ho hm hl hcu hCu
  obtain ⟨n2, hn2⟩ : ∃ n, n = r.f2.length := ⟨_, rfl⟩
  obtain ⟨nb, hnb⟩ : ∃ n, n = b.length := ⟨_, rfl⟩
  obtain ⟨kd, hkd⟩ : ∃ n, n = r.f0 := ⟨_, rfl⟩
  obtain ⟨cnt, hcnt⟩ : ∃ n, n = r.f1 := ⟨_, rfl⟩
  have hq0 : ((nb : Int)).tdiv 256 = ((nb / 256 : Nat) : Int) := by rw [Int.tdiv_eq_ediv_of_nonneg (by omega)]; omega
  have hq1 : (nb : Int) / 256 = ((nb / 256 : Nat) : Int) := by omega
  obtain ⟨q, hq⟩ : ∃ q : Nat, q = nb / 256 := ⟨_, rfl⟩
  have hBP : blockP r b = (if cnt < 1 ∨ 4096 - (q : Int) < cnt then none else if kd = 1 then (if n2 = 256 * cnt.toNat then some (b ++ r.f2) else none) else if kd = 2 then (if b = [] then none else some (b ++ (List.replicate cnt.toNat (b.drop (nb - 256))).flatten)) else some (b ++ List.replicate (256 * cnt.toNat) 0)) := by
    rw [hq, hnb, hkd, hcnt, hn2]; rfl
  rw [hBP, ← hn2, ← hnb, ← hkd, ← hcnt]
  rw [← hn2] at HR HC2
  rw [← hnb] at HCU HBL HU0
  rw [← hq] at hq0 hq1
  have HU := HU0
  clear HU0
  have HQ : Aside0 (q = nb / 256 ∧ q ≤ 4096) := ⟨hq, by have := HBL.out; omega⟩
  have HN2 : Aside0 (r.f2.length = n2) := ⟨hn2.symm⟩
  have HNB : Aside0 (b.length = nb) := ⟨hnb.symm⟩
  clear hBP hq hn2 hnb hkd hcnt
  have hw1 : wrap64 (4096 - (q : Int)) = 4096 - (q : Int) := w64 (by have := HQ.out; omega) (by omega)
  have hw0 : wrap64 (q : Int) = (q : Int) := w64 (by omega) (by have := HQ.out; omega)
  by_cases c1 : cnt < 1
  · rw [if_pos (.inl c1)]
    go_enter Try.func28, Try.ntmps28
    go_wp2_with (first
      | ((with_reducible refine gate_dst (N := 2) rfl ?_); go_loud (refine box_event ?hg (N := 2) ?hd (cs := #[.int .i64 kd, .int .i64 cnt, .slice A2 n2 c2]) (t := 41) ?hr ?_; (case hd => rfl); (case hg => rfl); (case hr => first | kernel_rfl | (go_simp; done) | (go_simp; rfl)); intro gr hg w_ hx hb; have GEG := Aside0.mk (show w.heap.size ≤ gr by rw [hg]; exact HB.out.size); have zB := below_step HB.out hb; clear HB hb hg; have HB := Aside0.mk zB; have HX := Aside0.mk hx; clear zB hx; have x0_ := blk_cell HX.out 0; have x1_ := blk_cell HX.out 1; have x2_ := blk_cell HX.out 2; have cx0 := x0_.trans (show _ = some (Value.int .i64 kd) from rfl); have cx1 := x1_.trans (show _ = some (Value.int .i64 cnt) from rfl); have cx2 := x2_.trans (show _ = some (Value.slice A2 n2 c2) from rfl); clear x0_ x1_ x2_))
      | ((with_reducible refine gate_dst (N := 23) rfl ?_); go_loud (refine make_zeros ?hg (.tmp 22) (.tmp 22) ?ho rn ?hx ?hy HRN.out.1 ?_; (case hg => rfl); (case ho => rfl); (case hx => rfl); (case hy => rfl); intro g hg w_ hk hb; have NEG := Aside0.mk (show g ≠ gr by rw [hg]; exact Nat.ne_of_gt (blk_lt HX.out)); have LTU := Aside0.mk (show w.heap.size ≤ g by rw [hg]; exact HB.out.size); clear cx0 cx1 cx2; have zB := below_step HB.out hb; have zX := blk_below HX.out hb; clear HB HX hb hg; have HB := Aside0.mk zB; have HX := Aside0.mk zX; have HK := Aside0.mk hk; clear zB zX hk; have x0_ := blk_cell HX.out 0; have x1_ := blk_cell HX.out 1; have x2_ := blk_cell HX.out 2; have cx0 := x0_.trans (show _ = some (Value.int .i64 kd) from rfl); have cx1 := x1_.trans (show _ = some (Value.int .i64 cnt) from rfl); have cx2 := x2_.trans (show _ = some (Value.slice A2 n2 c2) from rfl); clear x0_ x1_ x2_)))
    go_ret2
    exact ⟨rfl, below_step HW.out HB.out⟩
  by_cases c2_ : 4096 - (q : Int) < cnt
  · rw [if_pos (.inr c2_)]
    go_enter Try.func28, Try.ntmps28
    go_wp2_with (first
      | ((with_reducible refine gate_dst (N := 2) rfl ?_); go_loud (refine box_event ?hg (N := 2) ?hd (cs := #[.int .i64 kd, .int .i64 cnt, .slice A2 n2 c2]) (t := 41) ?hr ?_; (case hd => rfl); (case hg => rfl); (case hr => first | kernel_rfl | (go_simp; done) | (go_simp; rfl)); intro gr hg w_ hx hb; have GEG := Aside0.mk (show w.heap.size ≤ gr by rw [hg]; exact HB.out.size); have zB := below_step HB.out hb; clear HB hb hg; have HB := Aside0.mk zB; have HX := Aside0.mk hx; clear zB hx; have x0_ := blk_cell HX.out 0; have x1_ := blk_cell HX.out 1; have x2_ := blk_cell HX.out 2; have cx0 := x0_.trans (show _ = some (Value.int .i64 kd) from rfl); have cx1 := x1_.trans (show _ = some (Value.int .i64 cnt) from rfl); have cx2 := x2_.trans (show _ = some (Value.slice A2 n2 c2) from rfl); clear x0_ x1_ x2_))
      | ((with_reducible refine gate_dst (N := 23) rfl ?_); go_loud (refine make_zeros ?hg (.tmp 22) (.tmp 22) ?ho rn ?hx ?hy HRN.out.1 ?_; (case hg => rfl); (case ho => rfl); (case hx => rfl); (case hy => rfl); intro g hg w_ hk hb; have NEG := Aside0.mk (show g ≠ gr by rw [hg]; exact Nat.ne_of_gt (blk_lt HX.out)); have LTU := Aside0.mk (show w.heap.size ≤ g by rw [hg]; exact HB.out.size); clear cx0 cx1 cx2; have zB := below_step HB.out hb; have zX := blk_below HX.out hb; clear HB HX hb hg; have HB := Aside0.mk zB; have HX := Aside0.mk zX; have HK := Aside0.mk hk; clear zB zX hk; have x0_ := blk_cell HX.out 0; have x1_ := blk_cell HX.out 1; have x2_ := blk_cell HX.out 2; have cx0 := x0_.trans (show _ = some (Value.int .i64 kd) from rfl); have cx1 := x1_.trans (show _ = some (Value.int .i64 cnt) from rfl); have cx2 := x2_.trans (show _ = some (Value.slice A2 n2 c2) from rfl); clear x0_ x1_ x2_)))
    go_ret2
    exact ⟨rfl, below_step HW.out HB.out⟩
  rw [if_neg (by omega)]
  obtain ⟨m, hm⟩ : ∃ m : Nat, cnt = (m : Int) := ⟨cnt.toNat, by omega⟩
  obtain ⟨rn, hrn⟩ : ∃ rn : Nat, rn = 256 * m := ⟨_, rfl⟩
  have hw2 : wrap64 (cnt * 256) = (rn : Int) := by rw [w64 (by have := HQ.out; omega) (by have := HQ.out; omega)]; omega
  have hcm : cnt * 256 = (rn : Int) := by omega
  have HRN : Aside0 (rn ≤ 281474976710656 ∧ 0 < m ∧ m ≤ 4096 ∧ rn = 256 * cnt.toNat ∧ cnt = (m : Int) ∧ rn = 256 * m) := ⟨by have := HQ.out; omega⟩
  have HHL : Aside0 ((b.length + rn) * 1 ≤ 140737488355328 ∧ rn ≤ 9223372036854775807) := ⟨by have := HBL.out; have := HNB.out; have := HRN.out; omega⟩
  have HRP : Aside0 (0 < rn) := ⟨by have := HRN.out; omega⟩
  clear hm hrn
  have c1' : (cnt < 1) = False := eq_false c1
  by_cases k1 : kd = 1
  · rw [if_pos k1]
    have k1t : (kd == 1) = true := beq_iff_eq.mpr k1
    clear k1
    by_cases c3 : n2 = rn
    · rw [if_pos (by have := HRN.out; omega)]
      have c3' : ((n2 : Int) != (rn : Int)) = false := bne_eq_false_iff_eq.mpr (by omega)
      have HKN : Aside0 (n2 = rn) := ⟨c3⟩
      have HKN2 : Aside0 (r.f2.length = rn) := ⟨by rw [HN2.out]; exact c3⟩
      clear c3
      obtain ⟨room, hroom⟩ : ∃ room, room = r.f2 := ⟨_, rfl⟩
      have HRL : Aside0 (room.length = rn) := ⟨by rw [hroom]; exact HKN2.out⟩
      have HRM := Aside0.mk hroom
      rw [← hroom]
      clear hroom
      go_enter Try.func28, Try.ntmps28
      go_wp2_with (first
        | ((with_reducible refine gate_dst (N := 2) rfl ?_); go_loud (refine box_event ?hg (N := 2) ?hd (cs := #[.int .i64 kd, .int .i64 cnt, .slice A2 n2 c2]) (t := 41) ?hr ?_; (case hd => rfl); (case hg => rfl); (case hr => first | kernel_rfl | (go_simp; done) | (go_simp; rfl)); intro gr hg w_ hx hb; have GEG := Aside0.mk (show w.heap.size ≤ gr by rw [hg]; exact HB.out.size); have zB := below_step HB.out hb; clear HB hb hg; have HB := Aside0.mk zB; have HX := Aside0.mk hx; clear zB hx; have x0_ := blk_cell HX.out 0; have x1_ := blk_cell HX.out 1; have x2_ := blk_cell HX.out 2; have cx0 := x0_.trans (show _ = some (Value.int .i64 kd) from rfl); have cx1 := x1_.trans (show _ = some (Value.int .i64 cnt) from rfl); have cx2 := x2_.trans (show _ = some (Value.slice A2 n2 c2) from rfl); clear x0_ x1_ x2_))
        | ((with_reducible refine gate_dst (N := 23) rfl ?_); go_loud (refine make_zeros ?hg (.tmp 22) (.tmp 22) ?ho rn ?hx ?hy HRN.out.1 ?_; (case hg => rfl); (case ho => rfl); (case hx => rfl); (case hy => rfl); intro g hg w_ hk hb; have NEG := Aside0.mk (show g ≠ gr by rw [hg]; exact Nat.ne_of_gt (blk_lt HX.out)); have LTU := Aside0.mk (show w.heap.size ≤ g by rw [hg]; exact HB.out.size); clear cx0 cx1 cx2; have zB := below_step HB.out hb; have zX := blk_below HX.out hb; clear HB HX hb hg; have HB := Aside0.mk zB; have HX := Aside0.mk zX; have HK := Aside0.mk hk; clear zB zX hk; have x0_ := blk_cell HX.out 0; have x1_ := blk_cell HX.out 1; have x2_ := blk_cell HX.out 2; have cx0 := x0_.trans (show _ = some (Value.int .i64 kd) from rfl); have cx1 := x1_.trans (show _ = some (Value.int .i64 cnt) from rfl); have cx2 := x2_.trans (show _ = some (Value.slice A2 n2 c2) from rfl); clear x0_ x1_ x2_))
        | ((with_reducible refine gate_builtin (b := .copy) (xs := #[.tmp 34, .tmp 36]) rfl ?_); go_loud (refine copy_at ?hgd (.tmp 34) (.tmp 36) 22 22 ?ho Try.underlying22 g 0 rn rn A2 n2 c2 ?hd ?hs (List.replicate rn 0) 5 HK.out r.f2 HN2.out ?hC rn ?hm ?hp ?hf ?_; (case hgd => rfl); (case ho => rfl); (case hd => rfl); (case hs => rfl); (case hC => have q := Kd.C_below HR.out HB.out; rw [← HN2.out] at q; exact q); (case hm => rw [HKN.out]; exact (Nat.min_self _).symm); (case hp => exact HRP.out); (case hf => rw [List.length_replicate]; omega); intro w_ hk ho_ hg; rw [splice_whole _ _ HKN2.out, ← HRM.out] at hk; clear cx0 cx1 cx2; have zX := (ho_ _ (Ne.symm NEG.out)).trans HX.out; have zB := HB.out.grown hg HB.out.size (fun k e => by injection e with e; rw [← e]; exact LTU.out); clear HX HB HK ho_ hg; have HX := Aside0.mk zX; have HB := Aside0.mk zB; have HK := Aside0.mk hk; clear zX zB hk; have x0_ := blk_cell HX.out 0; have x1_ := blk_cell HX.out 1; have x2_ := blk_cell HX.out 2; have cx0 := x0_.trans (show _ = some (Value.int .i64 kd) from rfl); have cx1 := x1_.trans (show _ = some (Value.int .i64 cnt) from rfl); have cx2 := x2_.trans (show _ = some (Value.slice A2 n2 c2) from rfl); clear x0_ x1_ x2_))
        | ((with_reducible refine gate_builtin (b := .append) (xs := #[.tmp 58, .tmp 59]) rfl ?_); at_builtin; go_loud (refine Kd.R_append_row (Value.int .u8) (0 : Int) (w0 := w0) w0.heap.size rfl (.tmp 58) (.tmp 59) 22 5 (.int .u8 0) 1 rfl Try.underlying22 info5 rfl (by decide) (.slice Bu nb cu) b room (some ⟨g, 0, none⟩) rn rn (fun _ => True) rfl rfl (fun _ _ => trivial) (Kd.R_below HU.out HB.out) ?hr (below_step HW.out HB.out) ?hs ?hl ?_; (case hr => exact room_reads HK.out HRL.out HHL.out.2); (case hs => exact (below_step HW.out HB.out).size); (case hl => exact HHL.out.1); intro v w_ ho hb2 _ _; clear cx0 cx1 cx2 HX HK HB; have HV := Aside0.mk ho; have HB := Aside0.mk hb2; clear ho hb2)))
      go_ret2
      exact ⟨⟨v, rfl, HV.out⟩, HB.out⟩
    · rw [if_neg (by have := HRN.out; omega)]
      have c3' : ((n2 : Int) != (rn : Int)) = true := bne_iff_ne.mpr (by omega)
      go_enter Try.func28, Try.ntmps28
      go_wp2_with (first
        | ((with_reducible refine gate_dst (N := 2) rfl ?_); go_loud (refine box_event ?hg (N := 2) ?hd (cs := #[.int .i64 kd, .int .i64 cnt, .slice A2 n2 c2]) (t := 41) ?hr ?_; (case hd => rfl); (case hg => rfl); (case hr => first | kernel_rfl | (go_simp; done) | (go_simp; rfl)); intro gr hg w_ hx hb; have GEG := Aside0.mk (show w.heap.size ≤ gr by rw [hg]; exact HB.out.size); have zB := below_step HB.out hb; clear HB hb hg; have HB := Aside0.mk zB; have HX := Aside0.mk hx; clear zB hx; have x0_ := blk_cell HX.out 0; have x1_ := blk_cell HX.out 1; have x2_ := blk_cell HX.out 2; have cx0 := x0_.trans (show _ = some (Value.int .i64 kd) from rfl); have cx1 := x1_.trans (show _ = some (Value.int .i64 cnt) from rfl); have cx2 := x2_.trans (show _ = some (Value.slice A2 n2 c2) from rfl); clear x0_ x1_ x2_))
        | ((with_reducible refine gate_dst (N := 23) rfl ?_); go_loud (refine make_zeros ?hg (.tmp 22) (.tmp 22) ?ho rn ?hx ?hy HRN.out.1 ?_; (case hg => rfl); (case ho => rfl); (case hx => rfl); (case hy => rfl); intro g hg w_ hk hb; have NEG := Aside0.mk (show g ≠ gr by rw [hg]; exact Nat.ne_of_gt (blk_lt HX.out)); have LTU := Aside0.mk (show w.heap.size ≤ g by rw [hg]; exact HB.out.size); clear cx0 cx1 cx2; have zB := below_step HB.out hb; have zX := blk_below HX.out hb; clear HB HX hb hg; have HB := Aside0.mk zB; have HX := Aside0.mk zX; have HK := Aside0.mk hk; clear zB zX hk; have x0_ := blk_cell HX.out 0; have x1_ := blk_cell HX.out 1; have x2_ := blk_cell HX.out 2; have cx0 := x0_.trans (show _ = some (Value.int .i64 kd) from rfl); have cx1 := x1_.trans (show _ = some (Value.int .i64 cnt) from rfl); have cx2 := x2_.trans (show _ = some (Value.slice A2 n2 c2) from rfl); clear x0_ x1_ x2_)))
      go_ret2
      exact ⟨rfl, below_step HW.out HB.out⟩
  rw [if_neg k1]
  have k1' : (kd == 1) = false := beq_eq_false_iff_ne.mpr k1
  by_cases k2 : kd = 2
  · rw [if_pos k2]
    have k2t : (kd == 2) = true := beq_iff_eq.mpr k2
    clear k2
    by_cases c3 : b = []
    · rw [if_pos c3]
      have hnb0 : ((nb : Int) == 0) = true := beq_iff_eq.mpr (by rw [← HNB.out, c3]; rfl)
      go_enter Try.func28, Try.ntmps28
      go_wp2_with (first
        | ((with_reducible refine gate_dst (N := 2) rfl ?_); go_loud (refine box_event ?hg (N := 2) ?hd (cs := #[.int .i64 kd, .int .i64 cnt, .slice A2 n2 c2]) (t := 41) ?hr ?_; (case hd => rfl); (case hg => rfl); (case hr => first | kernel_rfl | (go_simp; done) | (go_simp; rfl)); intro gr hg w_ hx hb; have GEG := Aside0.mk (show w.heap.size ≤ gr by rw [hg]; exact HB.out.size); have zB := below_step HB.out hb; clear HB hb hg; have HB := Aside0.mk zB; have HX := Aside0.mk hx; clear zB hx; have x0_ := blk_cell HX.out 0; have x1_ := blk_cell HX.out 1; have x2_ := blk_cell HX.out 2; have cx0 := x0_.trans (show _ = some (Value.int .i64 kd) from rfl); have cx1 := x1_.trans (show _ = some (Value.int .i64 cnt) from rfl); have cx2 := x2_.trans (show _ = some (Value.slice A2 n2 c2) from rfl); clear x0_ x1_ x2_))
        | ((with_reducible refine gate_dst (N := 23) rfl ?_); go_loud (refine make_zeros ?hg (.tmp 22) (.tmp 22) ?ho rn ?hx ?hy HRN.out.1 ?_; (case hg => rfl); (case ho => rfl); (case hx => rfl); (case hy => rfl); intro g hg w_ hk hb; have NEG := Aside0.mk (show g ≠ gr by rw [hg]; exact Nat.ne_of_gt (blk_lt HX.out)); have LTU := Aside0.mk (show w.heap.size ≤ g by rw [hg]; exact HB.out.size); clear cx0 cx1 cx2; have zB := below_step HB.out hb; have zX := blk_below HX.out hb; clear HB HX hb hg; have HB := Aside0.mk zB; have HX := Aside0.mk zX; have HK := Aside0.mk hk; clear zB zX hk; have x0_ := blk_cell HX.out 0; have x1_ := blk_cell HX.out 1; have x2_ := blk_cell HX.out 2; have cx0 := x0_.trans (show _ = some (Value.int .i64 kd) from rfl); have cx1 := x1_.trans (show _ = some (Value.int .i64 cnt) from rfl); have cx2 := x2_.trans (show _ = some (Value.slice A2 n2 c2) from rfl); clear x0_ x1_ x2_)))
      go_ret2
      exact ⟨rfl, below_step HW.out HB.out⟩
    · rw [if_neg c3]
      have hnb0 : ((nb : Int) == 0) = false := beq_eq_false_iff_ne.mpr (fun e => c3 (List.eq_nil_of_length_eq_zero (by rw [HNB.out]; omega)))
      have h256 : 256 ≤ nb := by
        have h1 := HBL.out
        have h2 : nb ≠ 0 := fun e => c3 (List.eq_nil_of_length_eq_zero (by rw [HNB.out]; omega))
        omega
      clear c3
      obtain ⟨y, hy⟩ : ∃ y, y = b.drop (nb - 256) := ⟨_, rfl⟩
      have hyl : y.length = 256 := by rw [hy, List.length_drop, HNB.out]; omega
      obtain ⟨room, hroom⟩ : ∃ room, room = (List.replicate cnt.toNat y).flatten := ⟨_, rfl⟩
      rw [← hy, ← hroom]
      obtain ⟨pb, hpb⟩ : ∃ pb : Nat, pb = nb - 256 := ⟨_, rfl⟩
      have HP2 : Aside0 ((nb : Int) - 256 = (pb : Int)) := ⟨by omega⟩
      have HP3 : Aside0 (wrap64 (pb : Int) = (pb : Int)) := ⟨w64 (by omega) (by have := HBL.out; omega)⟩
      have HPB : Aside0 (pb ≤ nb) := ⟨by omega⟩
      obtain ⟨i0, hi0, _, hsz0, _⟩ := info_parts info5
      have HCU1 : Kd.C (Kd.int .u8) w Bu b.length b := by rw [HNB.out]; exact HCU.out.1
      obtain ⟨A6, hcutB, hcB2, _⟩ := print_drop_of (P := Try.prog) (Value.int .u8) (0 : Int) 22 5 .i64 Try.underlying22 hi0 hsz0 Bu cu b (pb : Int) (Int.natCast_nonneg pb) (Int.ofNat_le.mpr (by rw [HNB.out]; exact HPB.out)) (by rw [HNB.out]; exact HCU.out.2)
      rw [Int.toNat_natCast, show b.drop pb = y from by rw [hy, hpb], HNB.out, hyl] at hcutB
      have hcB3 := hcB2 w (Kd.reads_of_C HCU1)
      rw [Int.toNat_natCast, show b.drop pb = y from by rw [hy, hpb]] at hcB3
      obtain ⟨c6, hc6⟩ : ∃ c6, c6 = cu - pb := ⟨_, rfl⟩
      rw [← hc6] at hcutB
      have HCY : Aside0 ((Kd.int .u8).C w A6 y.length y) := ⟨Kd.C_of_reads (h1 := fun _ => rfl) hcB3⟩
      have HY : Aside0 (y.length = 256 ∧ y = b.drop (nb - 256)) := ⟨hyl, hy⟩
      have HRM : Aside0 (room = (List.replicate cnt.toNat y).flatten) := ⟨hroom⟩
      have HRL : Aside0 (room.length = rn) := ⟨by rw [hroom, flat_length hyl]; have := HRN.out; omega⟩
      have HCB := Aside0.mk hcutB
      clear hcutB hcB2 hcB3 hi0 hsz0 hc6 hy hyl hroom hpb HCU1
      go_enter Try.func28, Try.ntmps28
      go_wp2_with (first
        | ((with_reducible refine gate_dst (N := 2) rfl ?_); go_loud (refine box_event ?hg (N := 2) ?hd (cs := #[.int .i64 kd, .int .i64 cnt, .slice A2 n2 c2]) (t := 41) ?hr ?_; (case hd => rfl); (case hg => rfl); (case hr => first | kernel_rfl | (go_simp; done) | (go_simp; rfl)); intro gr hg w_ hx hb; have GEG := Aside0.mk (show w.heap.size ≤ gr by rw [hg]; exact HB.out.size); have zB := below_step HB.out hb; clear HB hb hg; have HB := Aside0.mk zB; have HX := Aside0.mk hx; clear zB hx; have x0_ := blk_cell HX.out 0; have x1_ := blk_cell HX.out 1; have x2_ := blk_cell HX.out 2; have cx0 := x0_.trans (show _ = some (Value.int .i64 kd) from rfl); have cx1 := x1_.trans (show _ = some (Value.int .i64 cnt) from rfl); have cx2 := x2_.trans (show _ = some (Value.slice A2 n2 c2) from rfl); clear x0_ x1_ x2_))
        | ((with_reducible refine gate_dst (N := 23) rfl ?_); go_loud (refine make_zeros ?hg (.tmp 22) (.tmp 22) ?ho rn ?hx ?hy HRN.out.1 ?_; (case hg => rfl); (case ho => rfl); (case hx => rfl); (case hy => rfl); intro g hg w_ hk hb; have NEG := Aside0.mk (show g ≠ gr by rw [hg]; exact Nat.ne_of_gt (blk_lt HX.out)); have LTU := Aside0.mk (show w.heap.size ≤ g by rw [hg]; exact HB.out.size); clear cx0 cx1 cx2; have zB := below_step HB.out hb; have zX := blk_below HX.out hb; clear HB HX hb hg; have HB := Aside0.mk zB; have HX := Aside0.mk zX; have HK := Aside0.mk hk; clear zB zX hk; have x0_ := blk_cell HX.out 0; have x1_ := blk_cell HX.out 1; have x2_ := blk_cell HX.out 2; have cx0 := x0_.trans (show _ = some (Value.int .i64 kd) from rfl); have cx1 := x1_.trans (show _ = some (Value.int .i64 cnt) from rfl); have cx2 := x2_.trans (show _ = some (Value.slice A2 n2 c2) from rfl); clear x0_ x1_ x2_)))
      clear cx0 cx1 cx2
      go_loopw [7] (fun v7 wr => ∃ (i at_ : Nat), i ≤ m ∧ v7 = .int .i64 (at_ : Int) ∧ Aside0 (at_ = 256 * i) ∧ Aside0 (Below w.heap.size w wr) ∧ Aside0 (wr.heap[gr]? = some (.cells #[.int .i64 kd, .int .i64 cnt, .slice A2 n2 c2] 41 (0, 0))) ∧ Aside0 (wr.heap[g]? = some (.cells (nums .u8 (fillP i rn y)).toArray 5 (0, 0)))) (fun v7 _ => rn - (intOf v7).toNat)
      case atStart => exact ⟨0, 0, by omega, rfl, ⟨rfl⟩, HB, HX, ⟨by have := HK.out; unfold fillP; simpa using this⟩⟩
      case round =>
        clear HB HX HK
        obtain ⟨i, at_, hi, rfl, HAT, HB, HX, HK⟩ := hrel
        have x0_ := blk_cell HX.out 0
        have x1_ := blk_cell HX.out 1
        have x2_ := blk_cell HX.out 2
        have cx0 := x0_.trans (show _ = some (Value.int .i64 kd) from rfl)
        have cx1 := x1_.trans (show _ = some (Value.int .i64 cnt) from rfl)
        have cx2 := x2_.trans (show _ = some (Value.slice A2 n2 c2) from rfl)
        clear x0_ x1_ x2_
        by_cases him : i < m
        · have hat : at_ < rn := by have := HAT.out; have := HRN.out; omega
          have HI2 : Aside0 (at_ = 256 * i ∧ 256 * i ≤ rn ∧ 256 * i + 256 ≤ rn) := ⟨by have := HAT.out; have := HRN.out; omega⟩
          have HMN : Aside0 (256 = Nat.min 256 (rn - at_)) := ⟨(Nat.min_eq_left (by have := HI2.out; omega)).symm⟩
          have hcutR : ∀ W : World, (Instr.slice 22 (.slice (some ⟨g, 0, none⟩) rn rn) (some (.int .i64 (at_ : Int))) none none).run Try.prog W = .ok (.slice (some ⟨g, at_, none⟩) (rn - at_) (rn - at_)) W := cut_own g rn at_ hat
          clear HCU
          go_wp2
          have hp2 := HP2.out
          have hp3 := HP3.out
          have hp4 : IntKind.i64.wrap (pb : Int) = (pb : Int) := (i64_w _).trans hp3
          have hpb2 : (pb : Int) ≤ (nb : Int) := Int.ofNat_le.mpr HPB.out
          have hpb3 : pb ≤ nb := HPB.out
          have hcutB := HCB.out
          refine wp_region_still_tail 8 (by kernel_rfl) (by kernel_rfl) ?_
          change wpStill _ _ (World.drew wr) (fun a' => wpList _ _ _ _ a' (World.drew wr)) _ _
          clear cx0 cx1 cx2
          have zX := blk_drew HX.out
          have zB := below_drew HB.out
          have zK := blk_drew HK.out
          clear HX HB HK
          have HX := Aside0.mk zX
          have HB := Aside0.mk zB
          have HK := Aside0.mk zK
          clear zX zB zK
          generalize hv_ : World.drew wr = v1 at HB HX HK ⊢
          clear hv_
          have x0_ := blk_cell HX.out 0
          have x1_ := blk_cell HX.out 1
          have x2_ := blk_cell HX.out 2
          have cx0 := x0_.trans (show _ = some (Value.int .i64 kd) from rfl)
          have cx1 := x1_.trans (show _ = some (Value.int .i64 cnt) from rfl)
          have cx2 := x2_.trans (show _ = some (Value.slice A2 n2 c2) from rfl)
          clear x0_ x1_ x2_
          simp only [List.take_succ_cons, List.take_zero, List.drop_succ_cons, List.drop_zero]
          iterate 8 still_step
          refine wpStill_nil ?_
          clear hp2 hp3 hp4 hpb2 hpb3 hcutB hcutR
          go_wp2_with (first
            | ((with_reducible refine gate_builtin (b := .copy) (xs := #[.tmp 51, .tmp 56]) rfl ?_); go_loud (refine copy_at ?hgd (.tmp 51) (.tmp 56) 22 22 ?ho Try.underlying22 g at_ (rn - at_) (rn - at_) A6 256 c6 ?hd ?hs (fillP i rn y) 5 HK.out y HY.out.1 ?hC 256 HMN.out (by decide) ?hf ?_; (case hgd => rfl); (case ho => rfl); (case hd => rfl); (case hs => rfl); (case hC => have q := Kd.C_below HCY.out HB.out; exact q); (case hf => rw [fillP_length HY.out.1 HI2.out.2.1, HI2.out.1]; exact HI2.out.2.2); intro w_ hk ho_ hg; rw [List.take_of_length_le (Nat.le_of_eq HY.out.1), HI2.out.1, fillP_succ HY.out.1 HI2.out.2.2] at hk; clear cx0 cx1 cx2; have zX := (ho_ _ (Ne.symm NEG.out)).trans HX.out; have zB := HB.out.grown hg HB.out.size (fun k e => by injection e with e; rw [← e]; exact LTU.out); clear HX HB HK ho_ hg; have HX := Aside0.mk zX; have HB := Aside0.mk zB; have HK := Aside0.mk hk; clear zX zB hk; have x0_ := blk_cell HX.out 0; have x1_ := blk_cell HX.out 1; have x2_ := blk_cell HX.out 2; have cx0 := x0_.trans (show _ = some (Value.int .i64 kd) from rfl); have cx1 := x1_.trans (show _ = some (Value.int .i64 cnt) from rfl); have cx2 := x2_.trans (show _ = some (Value.slice A2 n2 c2) from rfl); clear x0_ x1_ x2_)))
          go_roundw
          case rel => exact ⟨i + 1, at_ + 256, by omega, by rfl, ⟨by have := HAT.out; omega⟩, HB, HX, HK⟩
          case measure =>
            have := HAT.out
            simp [intOf]
            omega
        · have hat : ¬ at_ < rn := by have := HAT.out; have := HRN.out; omega
          have HFI : Aside0 (fillP i rn y = room) := ⟨by
            have him2 : i = m := by omega
            have := HRN.out
            rw [fillP, HRM.out, him2, show cnt.toNat = m from by omega, show rn - 256 * m = 0 from by omega]
            simp⟩
          rw [HFI.out] at HK
          go_wp2_with (first
            | ((with_reducible refine gate_builtin (b := .append) (xs := #[.tmp 58, .tmp 59]) rfl ?_); at_builtin; go_loud (refine Kd.R_append_row (Value.int .u8) (0 : Int) (w0 := w0) w0.heap.size rfl (.tmp 58) (.tmp 59) 22 5 (.int .u8 0) 1 rfl Try.underlying22 info5 rfl (by decide) (.slice Bu nb cu) b room (some ⟨g, 0, none⟩) rn rn (fun _ => True) rfl rfl (fun _ _ => trivial) (Kd.R_below HU.out HB.out) ?hr (below_step HW.out HB.out) ?hs ?hl ?_; (case hr => exact room_reads HK.out HRL.out HHL.out.2); (case hs => exact (below_step HW.out HB.out).size); (case hl => exact HHL.out.1); intro v w_ ho hb2 _ _; clear cx0 cx1 cx2 HX HK HB; have HV := Aside0.mk ho; have HB := Aside0.mk hb2; clear ho hb2)))
          go_ret2
          exact ⟨⟨v, rfl, HV.out⟩, HB.out⟩
  rw [if_neg k2]
  have k2' : (kd == 2) = false := beq_eq_false_iff_ne.mpr k2
  have HRL : Aside0 ((List.replicate rn (0 : Int)).length = rn) := ⟨List.length_replicate⟩
  obtain ⟨room, hroom⟩ : ∃ room, room = List.replicate rn (0 : Int) := ⟨_, rfl⟩
  rw [show 256 * cnt.toNat = rn from by have := HRN.out; omega, ← hroom]
  rw [← hroom] at HRL
  have HRM := Aside0.mk hroom
  clear hroom
  go_enter Try.func28, Try.ntmps28
  go_wp2_with (first
    | ((with_reducible refine gate_dst (N := 2) rfl ?_); go_loud (refine box_event ?hg (N := 2) ?hd (cs := #[.int .i64 kd, .int .i64 cnt, .slice A2 n2 c2]) (t := 41) ?hr ?_; (case hd => rfl); (case hg => rfl); (case hr => first | kernel_rfl | (go_simp; done) | (go_simp; rfl)); intro gr hg w_ hx hb; have GEG := Aside0.mk (show w.heap.size ≤ gr by rw [hg]; exact HB.out.size); have zB := below_step HB.out hb; clear HB hb hg; have HB := Aside0.mk zB; have HX := Aside0.mk hx; clear zB hx; have x0_ := blk_cell HX.out 0; have x1_ := blk_cell HX.out 1; have x2_ := blk_cell HX.out 2; have cx0 := x0_.trans (show _ = some (Value.int .i64 kd) from rfl); have cx1 := x1_.trans (show _ = some (Value.int .i64 cnt) from rfl); have cx2 := x2_.trans (show _ = some (Value.slice A2 n2 c2) from rfl); clear x0_ x1_ x2_))
    | ((with_reducible refine gate_dst (N := 23) rfl ?_); go_loud (refine make_zeros ?hg (.tmp 22) (.tmp 22) ?ho rn ?hx ?hy HRN.out.1 ?_; (case hg => rfl); (case ho => rfl); (case hx => rfl); (case hy => rfl); intro g hg w_ hk hb; have NEG := Aside0.mk (show g ≠ gr by rw [hg]; exact Nat.ne_of_gt (blk_lt HX.out)); have LTU := Aside0.mk (show w.heap.size ≤ g by rw [hg]; exact HB.out.size); clear cx0 cx1 cx2; have zB := below_step HB.out hb; have zX := blk_below HX.out hb; clear HB HX hb hg; have HB := Aside0.mk zB; have HX := Aside0.mk zX; rw [← HRM.out] at hk; have HK := Aside0.mk hk; clear zB zX hk; have x0_ := blk_cell HX.out 0; have x1_ := blk_cell HX.out 1; have x2_ := blk_cell HX.out 2; have cx0 := x0_.trans (show _ = some (Value.int .i64 kd) from rfl); have cx1 := x1_.trans (show _ = some (Value.int .i64 cnt) from rfl); have cx2 := x2_.trans (show _ = some (Value.slice A2 n2 c2) from rfl); clear x0_ x1_ x2_))
    | ((with_reducible refine gate_builtin (b := .append) (xs := #[.tmp 58, .tmp 59]) rfl ?_); at_builtin; go_loud (refine Kd.R_append_row (Value.int .u8) (0 : Int) (w0 := w0) w0.heap.size rfl (.tmp 58) (.tmp 59) 22 5 (.int .u8 0) 1 rfl Try.underlying22 info5 rfl (by decide) (.slice Bu nb cu) b room (some ⟨g, 0, none⟩) rn rn (fun _ => True) rfl rfl (fun _ _ => trivial) (Kd.R_below HU.out HB.out) ?hr (below_step HW.out HB.out) ?hs ?hl ?_; (case hr => exact room_reads HK.out HRL.out HHL.out.2); (case hs => exact (below_step HW.out HB.out).size); (case hl => exact HHL.out.1); intro v w_ ho hb2 _ _; clear cx0 cx1 cx2 HX HK HB; have HV := Aside0.mk ho; have HB := Aside0.mk hb2; clear ho hb2)))
  go_ret2
  exact ⟨⟨v, rfl, HV.out⟩, HB.out⟩
end Go.Proofs.Ytnlneiiccoakjaa.P
