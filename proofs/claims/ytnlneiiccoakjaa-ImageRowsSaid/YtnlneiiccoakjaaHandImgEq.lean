/-
image.Row's same, and slices.EqualFunc over it, walked by hand.
Conditions: none.
-/
import Derived.Test.YtnlneiiccoakjaaHandImgBlock
namespace Go.Proofs.Ytnlneiiccoakjaa.P
open Go.RowKit Go.Proofs.YtnlneiiccoakjaaW.PrintWords Go.Proofs.YtnlneiiccoakjaaW.PrintLast Go.Proofs.YtnlneiiccoakjaaW.PrintMore
attribute [local go_sem] max2_int min2_int max_two min_two max_three min_three max_four min_four
set_option linter.unusedVariables false
set_option linter.unusedSimpArgs false
open Go.Proofs.Ytnlneiiccoakjaa.Num
def sameB (x y : S41) : Bool := (x.f0 == y.f0) && ((x.f1 == y.f1) && decide (x.f2 = y.f2))
def sameL : List S41 → List S41 → Bool
  | [], [] => true
  | x :: xs, y :: ys => sameB x y && sameL xs ys
  | _, _ => false
theorem sameB_iff {x y : S41} : sameB x y = true ↔ x = y := by
  obtain ⟨a, b, c⟩ := x
  obtain ⟨a', b', c'⟩ := y
  simp [sameB]
theorem sameL_iff : ∀ {l m : List S41}, sameL l m = true ↔ l = m
  | [], [] => by simp [sameL]
  | [], _ :: _ => by simp [sameL]
  | _ :: _, [] => by simp [sameL]
  | x :: xs, y :: ys => by rw [sameL, Bool.and_eq_true, sameB_iff, sameL_iff, List.cons.injEq]
theorem sameL_len : ∀ {l m : List S41}, l.length ≠ m.length → sameL l m = false := by
  intro l m h
  rw [Bool.eq_false_iff]
  intro h2
  exact h (by rw [sameL_iff.mp h2])
theorem Equal_eq2 (k : Nat) (l m : List Int) (hm : m.length ≤ 140737488355328) (hk : m.length < k) : slices_Equal_byte_byte.f k l m = some (decide (l = m)) := by
  by_cases e : l.length = m.length
  · exact Equal_eq k l m (by omega) (by omega)
  · unfold slices_Equal_byte_byte.f
    rw [if_neg (by omega)]
    congr 1
    rw [eq_comm, decide_eq_false_iff_not]
    rintro rfl
    exact e rfl
/-- A whole variable is written: whatever its cells were. -/
theorem store_whole {w : World} {ops : Array Oper} {rest : List Oper} {o : Oper} {a : Act} {Q : Exit → Act → World → Prop} (hgd : o.guard = none) (hN : o.dst = none) {p : Tmp} {v : Operand} (ho : o.op = .store 41 (.tmp p) v)
    (g : Nat) (k c : Int) (d : Value) (hd : d.oneCell' = true) (hx : a.eval (.tmp p) = .pointer (some ⟨g, 0, none⟩)) (hy : a.eval v = .agg #[.int .i64 k, .int .i64 c, d]) (t' : TypeId) (x0 x1 x2 : Value) (hg : w.heap[g]? = some (.cells #[x0, x1, x2] t' (0, 0))) (B : Nat) (w0 : World) (hb : Below B w0 w) (hB : B ≤ g)
    (h : ∀ w', w'.heap[g]? = some (.cells #[.int .i64 k, .int .i64 c, d] t' (0, 0)) → (∀ q, q ≠ g → w'.heap[q]? = w.heap[q]?) → Below B w0 w' → wpList Try.prog ops Q rest a w') : wpList Try.prog ops Q (o :: rest) a w := by
  refine wpList_plain hgd fun K hK => ?_
  obtain ⟨i0, hi, _, hsz, _⟩ := info_parts infoRow
  refine wp_store_row 41 (.tmp p) v ho g #[.int .i64 k, .int .i64 c, d] hx hy t' #[x0, x1, x2] hg (by rw [hi, Option.map_some, hsz]; rfl) rfl (by simp [hd]; exact ⟨rfl, rfl⟩) ?_
  have e : a.put o.dst undef = a := by rw [hN]; rfl
  rw [e]
  exact hK _ _ (h _ (setRow_heap w g #[x0, x1, x2] #[.int .i64 k, .int .i64 c, d] t' (0, 0) hg) (fun k hk => setRow_other w g k _ hk) (below_setRow hb hB _))
set_option maxHeartbeats 16000000 in
set_option maxRecDepth 100000 in
theorem row_same.calls (x y : S41) (A : Option Addr) (cx : Nat) (B : Option Addr) (cy : Nat) (w : World) (hx : Kd.C (Kd.int .u8) w A x.f2.length x.f2) (hcx : x.f2.length ≤ cx) (hy : Kd.C (Kd.int .u8) w B y.f2.length y.f2) (hcy : y.f2.length ≤ cy) (hl : y.f2.length ≤ 140737488355328) :
    Calls Try.prog 30 #[.agg #[.int .i64 x.f0, .int .i64 x.f1, .slice A x.f2.length cx], .agg #[.int .i64 y.f0, .int .i64 y.f1, .slice B y.f2.length cy]] w fun e w' => e = .returned (.bool (sameB x y)) ∧ Below w.heap.size w w' := by
  have HB := Aside0.mk (Below.refl w.heap.size w)
  obtain ⟨t, ht⟩ : ∃ t, t = decide (x.f2 = y.f2) := ⟨_, rfl⟩
  have cE : Aside0 (∀ w' : World, Below w.heap.size w w' → Calls Try.prog 40 #[.slice A x.f2.length cx, .slice B y.f2.length cy] w' fun e w'' => e = .returned (.bool t) ∧ Below w'.heap.size w' w'') := ⟨fun w' hb =>
    (slices_Equal_byte_byte.calls (y.f2.length + 1) A cx x.f2 B cy y.f2 t w' (Kd.C_below hx hb) hcx (Kd.C_below hy hb) hcy (by rw [ht]; exact Equal_eq2 _ _ _ hl (by omega))).mono fun e w'' hq => ⟨hq.1, drawn_below hq.2⟩⟩
  have hS : sameB x y = ((x.f0 == y.f0) && ((x.f1 == y.f1) && t)) := by rw [ht]; rfl
  rw [hS]
  clear hS ht hx hcx hy hcy hl
  generalize x.f2.length = nx at cE ⊢
  generalize y.f2.length = ny at cE ⊢
  generalize x.f0 = k1
  generalize y.f0 = k2
  generalize x.f1 = n1
  generalize y.f1 = n2
  go_enter Try.func30, Try.ntmps30
-- WALK
  cases t
  all_goals
    by_cases e1 : k1 = k2
    · have b1 : (k1 == k2) = true := beq_iff_eq.mpr e1
      rw [b1]
      clear e1
      by_cases e2 : n1 = n2
      · have b2 : (n1 == n2) = true := beq_iff_eq.mpr e2
        rw [b2]
        clear e2
        go_wp2_with (first
          | ((with_reducible refine gate_dst (N := 2) rfl ?_); go_loud (refine box_event ?hg (N := 2) ?hd (cs := #[.int .i64 k1, .int .i64 n1, .slice A nx cx]) (t := 41) ?hr ?_; (case hd => rfl); (case hg => rfl); (case hr => first | kernel_rfl | (go_simp; done) | (go_simp; rfl)); intro ga hg w_ hx hb; have GE_HX := Aside0.mk (show w.heap.size ≤ ga by rw [hg]; exact HB.out.size); clear hg; replace HB := Aside0.mk (below_step HB.out hb); clear hb; have HX : Aside0 (w_.heap[ga]? = some (.cells #[.int .i64 k1, .int .i64 n1, .slice A nx cx] 41 (0, 0))) := ⟨hx⟩; clear hx; have cHX_0 := (blk_cell HX.out 0).trans (show _ = some (Value.int .i64 k1) from rfl); have cHX_1 := (blk_cell HX.out 1).trans (show _ = some (Value.int .i64 n1) from rfl); have cHX_2 := (blk_cell HX.out 2).trans (show _ = some (Value.slice A nx cx) from rfl)))
          | ((with_reducible refine gate_dst (N := 3) rfl ?_); go_loud (refine box_event ?hg (N := 3) ?hd (cs := #[.int .i64 k2, .int .i64 n2, .slice B ny cy]) (t := 41) ?hr ?_; (case hd => rfl); (case hg => rfl); (case hr => first | kernel_rfl | (go_simp; done) | (go_simp; rfl)); intro gb hg w_ hx hb; clear cHX_0 cHX_1 cHX_2; have NE_HX_HY := Aside0.mk (show ga ≠ gb by rw [hg]; exact Nat.ne_of_lt (blk_lt HX.out)); have GE_HY := Aside0.mk (show w.heap.size ≤ gb by rw [hg]; exact HB.out.size); clear hg; replace HB := Aside0.mk (below_step HB.out hb); replace HX := Aside0.mk (blk_below HX.out hb); clear hb; have HY : Aside0 (w_.heap[gb]? = some (.cells #[.int .i64 k2, .int .i64 n2, .slice B ny cy] 41 (0, 0))) := ⟨hx⟩; clear hx; have cHX_0 := (blk_cell HX.out 0).trans (show _ = some (Value.int .i64 k1) from rfl); have cHX_1 := (blk_cell HX.out 1).trans (show _ = some (Value.int .i64 n1) from rfl); have cHX_2 := (blk_cell HX.out 2).trans (show _ = some (Value.slice A nx cx) from rfl); have cHY_0 := (blk_cell HY.out 0).trans (show _ = some (Value.int .i64 k2) from rfl); have cHY_1 := (blk_cell HY.out 1).trans (show _ = some (Value.int .i64 n2) from rfl); have cHY_2 := (blk_cell HY.out 2).trans (show _ = some (Value.slice B ny cy) from rfl)))
          | (go_at_call 40; go_loud ((with_reducible refine (cE.out _ HB.out).mono ?_); rintro e w_ ⟨rfl, hb⟩; clear cHX_0 cHX_1 cHX_2 cHY_0 cHY_1 cHY_2; replace HB := Aside0.mk (below_step HB.out hb); replace HX := Aside0.mk (blk_below HX.out hb); replace HY := Aside0.mk (blk_below HY.out hb); clear hb; have cHX_0 := (blk_cell HX.out 0).trans (show _ = some (Value.int .i64 k1) from rfl); have cHX_1 := (blk_cell HX.out 1).trans (show _ = some (Value.int .i64 n1) from rfl); have cHX_2 := (blk_cell HX.out 2).trans (show _ = some (Value.slice A nx cx) from rfl); have cHY_0 := (blk_cell HY.out 0).trans (show _ = some (Value.int .i64 k2) from rfl); have cHY_1 := (blk_cell HY.out 1).trans (show _ = some (Value.int .i64 n2) from rfl); have cHY_2 := (blk_cell HY.out 2).trans (show _ = some (Value.slice B ny cy) from rfl))))
        go_ret
        exact ⟨rfl, HB.out⟩
      · have b2 : (n1 == n2) = false := beq_eq_false_iff_ne.mpr e2
        rw [b2]
        clear e2
        go_wp2_with (first
          | ((with_reducible refine gate_dst (N := 2) rfl ?_); go_loud (refine box_event ?hg (N := 2) ?hd (cs := #[.int .i64 k1, .int .i64 n1, .slice A nx cx]) (t := 41) ?hr ?_; (case hd => rfl); (case hg => rfl); (case hr => first | kernel_rfl | (go_simp; done) | (go_simp; rfl)); intro ga hg w_ hx hb; have GE_HX := Aside0.mk (show w.heap.size ≤ ga by rw [hg]; exact HB.out.size); clear hg; replace HB := Aside0.mk (below_step HB.out hb); clear hb; have HX : Aside0 (w_.heap[ga]? = some (.cells #[.int .i64 k1, .int .i64 n1, .slice A nx cx] 41 (0, 0))) := ⟨hx⟩; clear hx; have cHX_0 := (blk_cell HX.out 0).trans (show _ = some (Value.int .i64 k1) from rfl); have cHX_1 := (blk_cell HX.out 1).trans (show _ = some (Value.int .i64 n1) from rfl); have cHX_2 := (blk_cell HX.out 2).trans (show _ = some (Value.slice A nx cx) from rfl)))
          | ((with_reducible refine gate_dst (N := 3) rfl ?_); go_loud (refine box_event ?hg (N := 3) ?hd (cs := #[.int .i64 k2, .int .i64 n2, .slice B ny cy]) (t := 41) ?hr ?_; (case hd => rfl); (case hg => rfl); (case hr => first | kernel_rfl | (go_simp; done) | (go_simp; rfl)); intro gb hg w_ hx hb; clear cHX_0 cHX_1 cHX_2; have NE_HX_HY := Aside0.mk (show ga ≠ gb by rw [hg]; exact Nat.ne_of_lt (blk_lt HX.out)); have GE_HY := Aside0.mk (show w.heap.size ≤ gb by rw [hg]; exact HB.out.size); clear hg; replace HB := Aside0.mk (below_step HB.out hb); replace HX := Aside0.mk (blk_below HX.out hb); clear hb; have HY : Aside0 (w_.heap[gb]? = some (.cells #[.int .i64 k2, .int .i64 n2, .slice B ny cy] 41 (0, 0))) := ⟨hx⟩; clear hx; have cHX_0 := (blk_cell HX.out 0).trans (show _ = some (Value.int .i64 k1) from rfl); have cHX_1 := (blk_cell HX.out 1).trans (show _ = some (Value.int .i64 n1) from rfl); have cHX_2 := (blk_cell HX.out 2).trans (show _ = some (Value.slice A nx cx) from rfl); have cHY_0 := (blk_cell HY.out 0).trans (show _ = some (Value.int .i64 k2) from rfl); have cHY_1 := (blk_cell HY.out 1).trans (show _ = some (Value.int .i64 n2) from rfl); have cHY_2 := (blk_cell HY.out 2).trans (show _ = some (Value.slice B ny cy) from rfl)))
          | (go_at_call 40; go_loud ((with_reducible refine (cE.out _ HB.out).mono ?_); rintro e w_ ⟨rfl, hb⟩; clear cHX_0 cHX_1 cHX_2 cHY_0 cHY_1 cHY_2; replace HB := Aside0.mk (below_step HB.out hb); replace HX := Aside0.mk (blk_below HX.out hb); replace HY := Aside0.mk (blk_below HY.out hb); clear hb; have cHX_0 := (blk_cell HX.out 0).trans (show _ = some (Value.int .i64 k1) from rfl); have cHX_1 := (blk_cell HX.out 1).trans (show _ = some (Value.int .i64 n1) from rfl); have cHX_2 := (blk_cell HX.out 2).trans (show _ = some (Value.slice A nx cx) from rfl); have cHY_0 := (blk_cell HY.out 0).trans (show _ = some (Value.int .i64 k2) from rfl); have cHY_1 := (blk_cell HY.out 1).trans (show _ = some (Value.int .i64 n2) from rfl); have cHY_2 := (blk_cell HY.out 2).trans (show _ = some (Value.slice B ny cy) from rfl))))
        go_ret
        exact ⟨rfl, HB.out⟩
    · have b1 : (k1 == k2) = false := beq_eq_false_iff_ne.mpr e1
      rw [b1]
      clear e1
      go_wp2_with (first
        | ((with_reducible refine gate_dst (N := 2) rfl ?_); go_loud (refine box_event ?hg (N := 2) ?hd (cs := #[.int .i64 k1, .int .i64 n1, .slice A nx cx]) (t := 41) ?hr ?_; (case hd => rfl); (case hg => rfl); (case hr => first | kernel_rfl | (go_simp; done) | (go_simp; rfl)); intro ga hg w_ hx hb; have GE_HX := Aside0.mk (show w.heap.size ≤ ga by rw [hg]; exact HB.out.size); clear hg; replace HB := Aside0.mk (below_step HB.out hb); clear hb; have HX : Aside0 (w_.heap[ga]? = some (.cells #[.int .i64 k1, .int .i64 n1, .slice A nx cx] 41 (0, 0))) := ⟨hx⟩; clear hx; have cHX_0 := (blk_cell HX.out 0).trans (show _ = some (Value.int .i64 k1) from rfl); have cHX_1 := (blk_cell HX.out 1).trans (show _ = some (Value.int .i64 n1) from rfl); have cHX_2 := (blk_cell HX.out 2).trans (show _ = some (Value.slice A nx cx) from rfl)))
        | ((with_reducible refine gate_dst (N := 3) rfl ?_); go_loud (refine box_event ?hg (N := 3) ?hd (cs := #[.int .i64 k2, .int .i64 n2, .slice B ny cy]) (t := 41) ?hr ?_; (case hd => rfl); (case hg => rfl); (case hr => first | kernel_rfl | (go_simp; done) | (go_simp; rfl)); intro gb hg w_ hx hb; clear cHX_0 cHX_1 cHX_2; have NE_HX_HY := Aside0.mk (show ga ≠ gb by rw [hg]; exact Nat.ne_of_lt (blk_lt HX.out)); have GE_HY := Aside0.mk (show w.heap.size ≤ gb by rw [hg]; exact HB.out.size); clear hg; replace HB := Aside0.mk (below_step HB.out hb); replace HX := Aside0.mk (blk_below HX.out hb); clear hb; have HY : Aside0 (w_.heap[gb]? = some (.cells #[.int .i64 k2, .int .i64 n2, .slice B ny cy] 41 (0, 0))) := ⟨hx⟩; clear hx; have cHX_0 := (blk_cell HX.out 0).trans (show _ = some (Value.int .i64 k1) from rfl); have cHX_1 := (blk_cell HX.out 1).trans (show _ = some (Value.int .i64 n1) from rfl); have cHX_2 := (blk_cell HX.out 2).trans (show _ = some (Value.slice A nx cx) from rfl); have cHY_0 := (blk_cell HY.out 0).trans (show _ = some (Value.int .i64 k2) from rfl); have cHY_1 := (blk_cell HY.out 1).trans (show _ = some (Value.int .i64 n2) from rfl); have cHY_2 := (blk_cell HY.out 2).trans (show _ = some (Value.slice B ny cy) from rfl)))
        | (go_at_call 40; go_loud ((with_reducible refine (cE.out _ HB.out).mono ?_); rintro e w_ ⟨rfl, hb⟩; clear cHX_0 cHX_1 cHX_2 cHY_0 cHY_1 cHY_2; replace HB := Aside0.mk (below_step HB.out hb); replace HX := Aside0.mk (blk_below HX.out hb); replace HY := Aside0.mk (blk_below HY.out hb); clear hb; have cHX_0 := (blk_cell HX.out 0).trans (show _ = some (Value.int .i64 k1) from rfl); have cHX_1 := (blk_cell HX.out 1).trans (show _ = some (Value.int .i64 n1) from rfl); have cHX_2 := (blk_cell HX.out 2).trans (show _ = some (Value.slice A nx cx) from rfl); have cHY_0 := (blk_cell HY.out 0).trans (show _ = some (Value.int .i64 k2) from rfl); have cHY_1 := (blk_cell HY.out 1).trans (show _ = some (Value.int .i64 n2) from rfl); have cHY_2 := (blk_cell HY.out 2).trans (show _ = some (Value.slice B ny cy) from rfl))))
      go_ret
      exact ⟨rfl, HB.out⟩
/-- An element of a row of rows. -/
theorem row_at {w : World} {A : Option Addr} {xs : List S41} (h : Kd.C k41 w A xs.length xs) (i : Nat) (hi : i < xs.length) : ∃ (ad : Addr) (A2 : Option Addr) (c2 : Nat), A = some ad ∧ w.cell? (ad.add (i * 3)) = some (.int .i64 xs[i].f0) ∧ w.cell? ⟨(ad.add (i * 3)).block, (ad.add (i * 3)).off + 1, none⟩ = some (.int .i64 xs[i].f1) ∧
    w.cell? ⟨(ad.add (i * 3)).block, (ad.add (i * 3)).off + 2, none⟩ = some (.slice A2 xs[i].f2.length c2) ∧ xs[i].f2.length ≤ c2 ∧ (Kd.int .u8).C w A2 xs[i].f2.length xs[i].f2 := by
  obtain ⟨ad, A2, c2, h1, h2, h3, h4, h5, h6⟩ := at_T41 h (i : Int) (by omega) (by omega)
  have e : rd_T41 xs (i : Int) = xs[i] := by simp [rd_T41, hi]
  rw [e] at h2 h3 h4 h5 h6
  rw [Int.toNat_natCast] at h2 h3 h4
  exact ⟨ad, A2, c2, h1, h2, h3, h4, h5, h6⟩
theorem cell_under {w w' : World} {p : Addr} {v : Value} (h : w.cell? p = some v) (hb : Below w.heap.size w w') : w'.cell? p = some v := by
  refine (hb.cell ?_).trans h
  by_cases hl : p.block < w.heap.size
  · exact hl
  · unfold World.cell? at h
    rw [Array.getElem?_eq_none (by omega)] at h
    simp at h
theorem sameL_drop {l m : List S41} {i : Nat} (h1 : i < l.length) (h2 : i < m.length) : sameL (l.drop i) (m.drop i) = (sameB l[i] m[i] && sameL (l.drop (i + 1)) (m.drop (i + 1))) := by
  rw [List.drop_eq_getElem_cons h1, List.drop_eq_getElem_cons h2, sameL]
set_option maxHeartbeats 16000000 in
set_option maxRecDepth 100000 in
theorem equal_rows.calls (l m : List S41) (A : Option Addr) (cl : Nat) (B : Option Addr) (cm : Nat) (w : World) (hl : Kd.C k41 w A l.length l) (hm : Kd.C k41 w B m.length m) (hb : ∀ y ∈ m, y.f2.length ≤ 1048576) (hn : m.length ≤ 1048576) :
    Calls Try.prog 29 #[.slice A l.length cl, .slice B m.length cm, .func (.func 30) #[] #[]] w fun e w' => e = .returned (.bool (sameL l m)) ∧ Below w.heap.size w w' := by
  have HB := Aside0.mk (Below.refl w.heap.size w)
  by_cases hlen : l.length = m.length
  case neg =>
    rw [sameL_len hlen]
    have hne : ((l.length : Int) != (m.length : Int)) = true := bne_iff_ne.mpr (by omega)
    generalize l.length = n1 at hne
    generalize m.length = n2 at hne
    clear hlen hb hn hl hm
    go_enter Try.func29, Try.ntmps29
    go_wp2
    go_ret
    exact ⟨rfl, HB.out⟩
  have HL := Aside0.mk hl
  have HM := Aside0.mk hm
  have HMB := Aside0.mk hb
  obtain ⟨n, hn1⟩ : ∃ n, n = l.length := ⟨_, rfl⟩
  obtain ⟨r, hr⟩ : ∃ r, r = sameL l m := ⟨_, rfl⟩
  have HN : Aside0 (n = l.length ∧ n = m.length ∧ n ≤ 1048576) := ⟨by omega⟩
  have HR : Aside0 (r = sameL l m) := ⟨hr⟩
  rw [← hr, ← hlen, ← hn1]
  clear hl hm hb hn hlen hn1 hr
  go_enter Try.func29, Try.ntmps29
  go_wp2
  go_loopw [17] (fun v17 wr => ∃ i : Nat, i ≤ n ∧ v17 = .int .i64 i ∧ Aside0 (r = sameL (l.drop i) (m.drop i)) ∧ Aside0 (Below w.heap.size w wr)) (fun v17 _ => n - (intOf v17).toNat)
  case atStart => exact ⟨0, by omega, rfl, HR, HB⟩
  case round =>
    clear HB HR
    obtain ⟨i, hi, rfl, HR, HB⟩ := hrel
    have hnb : n ≤ 1048576 := HN.out.2.2
    by_cases hin : i < n
    · have hil : i < l.length := by have := HN.out; omega
      have him : i < m.length := by have := HN.out; omega
      obtain ⟨ax, Ax, cx, eA, hx0, hx1, hx2, hxc, hxr⟩ := row_at HL.out i hil
      obtain ⟨ay, Ay, cy, eB, hy0, hy1, hy2, hyc, hyr⟩ := row_at HM.out i him
      subst eA
      subst eB
      replace hx0 := cell_under hx0 HB.out
      replace hx1 := cell_under hx1 HB.out
      replace hx2 := cell_under hx2 HB.out
      have HY0 := Aside0.mk (⟨hy0, hy1, hy2⟩ : _ ∧ _ ∧ _)
      obtain ⟨x, ex⟩ : ∃ x, x = l[i] := ⟨_, rfl⟩
      obtain ⟨y, ey⟩ : ∃ y, y = m[i] := ⟨_, rfl⟩
      rw [← ex] at hx0 hx1 hx2 hxc hxr
      rw [← ey] at HY0 hyc hyr
      have HT : Aside0 (r = (sameB x y && sameL (l.drop (i + 1)) (m.drop (i + 1)))) := ⟨by rw [HR.out, sameL_drop hil him, ex, ey]⟩
      have cS : Aside0 (∀ w' : World, Below w.heap.size w w' → Calls Try.prog 30 #[.agg #[.int .i64 x.f0, .int .i64 x.f1, .slice Ax x.f2.length cx], .agg #[.int .i64 y.f0, .int .i64 y.f1, .slice Ay y.f2.length cy]] w' fun e w'' => e = .returned (.bool (sameB x y)) ∧ Below w'.heap.size w' w'') := ⟨fun w' hb =>
        row_same.calls x y Ax cx Ay cy w' (Kd.C_below hxr hb) hxc (Kd.C_below hyr hb) hyc (by have := HMB.out y (by rw [ey]; exact List.getElem_mem him); omega)⟩
      clear hil him hxc hxr hyc hyr ex ey hy0 hy1 hy2
      generalize x.f2.length = nx at hx2 cS
      generalize y.f2.length = ny at HY0 cS
      generalize x.f0 = k1 at hx0 cS
      generalize y.f0 = k2 at HY0 cS
      generalize x.f1 = n1 at hx1 cS
      generalize y.f1 = n2 at HY0 cS
      generalize sameB x y = t at cS HT
      have cy0 := cell_under HY0.out.1 HB.out
      have cy1 := cell_under HY0.out.2.1 HB.out
      have cy2 := cell_under HY0.out.2.2 HB.out
      cases t
      · skip
        go_wp2_with (first
          | ((with_reducible refine gate_dst (N := 8) rfl ?_); go_loud (refine box_event ?hg (N := 8) ?hd (cs := #[.int .i64 0, .int .i64 0, .slice none 0 0]) (t := 41) ?hr ?_; (case hd => rfl); (case hg => rfl); (case hr => first | kernel_rfl | (go_simp; done) | (go_simp; rfl)); intro ga hg w_ hx hb; clear cy0 cy1 cy2; have GE_HX := Aside0.mk (show w.heap.size ≤ ga by rw [hg]; exact HB.out.size); clear hg; replace HB := Aside0.mk (below_step HB.out hb); clear hb; have HX : Aside0 (w_.heap[ga]? = some (.cells #[.int .i64 0, .int .i64 0, .slice none 0 0] 41 (0, 0))) := ⟨hx⟩; clear hx; have cHX_0 := (blk_cell HX.out 0).trans (show _ = some (Value.int .i64 0) from rfl); have cHX_1 := (blk_cell HX.out 1).trans (show _ = some (Value.int .i64 0) from rfl); have cHX_2 := (blk_cell HX.out 2).trans (show _ = some (Value.slice none 0 0) from rfl); have cy0 := cell_under HY0.out.1 HB.out; have cy1 := cell_under HY0.out.2.1 HB.out; have cy2 := cell_under HY0.out.2.2 HB.out))
          | ((refine gate_store (t := 41) (p := 8) rfl ?_); go_loud (refine store_whole ?hgd ?hN (p := 8) (v := .tmp 21) ?ho ga (k1) (n1) (.slice Ax nx cx) rfl ?hx ?hy _ _ _ _ HX.out w.heap.size w HB.out GE_HX.out ?_; (case hgd => rfl); (case hN => rfl); (case ho => rfl); (case hx => rfl); (case hy => rfl); intro w_ hx_ ho_ hb_; clear cHX_0 cHX_1 cHX_2 cy0 cy1 cy2; clear HB; have HB := Aside0.mk hb_; clear hb_ HX; have HX : Aside0 (w_.heap[ga]? = some (.cells #[.int .i64 k1, .int .i64 n1, .slice Ax nx cx] 41 (0, 0))) := ⟨hx_⟩; clear hx_ ho_; have cHX_0 := (blk_cell HX.out 0).trans (show _ = some (Value.int .i64 k1) from rfl); have cHX_1 := (blk_cell HX.out 1).trans (show _ = some (Value.int .i64 n1) from rfl); have cHX_2 := (blk_cell HX.out 2).trans (show _ = some (Value.slice Ax nx cx) from rfl); have cy0 := cell_under HY0.out.1 HB.out; have cy1 := cell_under HY0.out.2.1 HB.out; have cy2 := cell_under HY0.out.2.2 HB.out))
          | ((with_reducible refine gate_dst (N := 9) rfl ?_); go_loud (refine box_event ?hg (N := 9) ?hd (cs := #[.int .i64 0, .int .i64 0, .slice none 0 0]) (t := 41) ?hr ?_; (case hd => rfl); (case hg => rfl); (case hr => first | kernel_rfl | (go_simp; done) | (go_simp; rfl)); intro gb hg w_ hx hb; clear cHX_0 cHX_1 cHX_2 cy0 cy1 cy2; have NE_HX_HY := Aside0.mk (show ga ≠ gb by rw [hg]; exact Nat.ne_of_lt (blk_lt HX.out)); have GE_HY := Aside0.mk (show w.heap.size ≤ gb by rw [hg]; exact HB.out.size); clear hg; replace HB := Aside0.mk (below_step HB.out hb); replace HX := Aside0.mk (blk_below HX.out hb); clear hb; have HY : Aside0 (w_.heap[gb]? = some (.cells #[.int .i64 0, .int .i64 0, .slice none 0 0] 41 (0, 0))) := ⟨hx⟩; clear hx; have cHX_0 := (blk_cell HX.out 0).trans (show _ = some (Value.int .i64 k1) from rfl); have cHX_1 := (blk_cell HX.out 1).trans (show _ = some (Value.int .i64 n1) from rfl); have cHX_2 := (blk_cell HX.out 2).trans (show _ = some (Value.slice Ax nx cx) from rfl); have cHY_0 := (blk_cell HY.out 0).trans (show _ = some (Value.int .i64 0) from rfl); have cHY_1 := (blk_cell HY.out 1).trans (show _ = some (Value.int .i64 0) from rfl); have cHY_2 := (blk_cell HY.out 2).trans (show _ = some (Value.slice none 0 0) from rfl); have cy0 := cell_under HY0.out.1 HB.out; have cy1 := cell_under HY0.out.2.1 HB.out; have cy2 := cell_under HY0.out.2.2 HB.out))
          | ((refine gate_store (t := 41) (p := 9) rfl ?_); go_loud (refine store_whole ?hgd ?hN (p := 9) (v := .tmp 25) ?ho gb (k2) (n2) (.slice Ay ny cy) rfl ?hx ?hy _ _ _ _ HY.out w.heap.size w HB.out GE_HY.out ?_; (case hgd => rfl); (case hN => rfl); (case ho => rfl); (case hx => rfl); (case hy => rfl); intro w_ hx_ ho_ hb_; clear cHX_0 cHX_1 cHX_2 cHY_0 cHY_1 cHY_2 cy0 cy1 cy2; replace HX := Aside0.mk ((ho_ _ NE_HX_HY.out).trans HX.out); clear HB; have HB := Aside0.mk hb_; clear hb_ HY; have HY : Aside0 (w_.heap[gb]? = some (.cells #[.int .i64 k2, .int .i64 n2, .slice Ay ny cy] 41 (0, 0))) := ⟨hx_⟩; clear hx_ ho_; have cHX_0 := (blk_cell HX.out 0).trans (show _ = some (Value.int .i64 k1) from rfl); have cHX_1 := (blk_cell HX.out 1).trans (show _ = some (Value.int .i64 n1) from rfl); have cHX_2 := (blk_cell HX.out 2).trans (show _ = some (Value.slice Ax nx cx) from rfl); have cHY_0 := (blk_cell HY.out 0).trans (show _ = some (Value.int .i64 k2) from rfl); have cHY_1 := (blk_cell HY.out 1).trans (show _ = some (Value.int .i64 n2) from rfl); have cHY_2 := (blk_cell HY.out 2).trans (show _ = some (Value.slice Ay ny cy) from rfl); have cy0 := cell_under HY0.out.1 HB.out; have cy1 := cell_under HY0.out.2.1 HB.out; have cy2 := cell_under HY0.out.2.2 HB.out))
          | (go_at_call 30; go_loud ((with_reducible refine (cS.out _ HB.out).mono ?_); rintro e w_ ⟨rfl, hb⟩; clear cHX_0 cHX_1 cHX_2 cHY_0 cHY_1 cHY_2 cy0 cy1 cy2; replace HB := Aside0.mk (below_step HB.out hb); replace HX := Aside0.mk (blk_below HX.out hb); replace HY := Aside0.mk (blk_below HY.out hb); clear hb; have cHX_0 := (blk_cell HX.out 0).trans (show _ = some (Value.int .i64 k1) from rfl); have cHX_1 := (blk_cell HX.out 1).trans (show _ = some (Value.int .i64 n1) from rfl); have cHX_2 := (blk_cell HX.out 2).trans (show _ = some (Value.slice Ax nx cx) from rfl); have cHY_0 := (blk_cell HY.out 0).trans (show _ = some (Value.int .i64 k2) from rfl); have cHY_1 := (blk_cell HY.out 1).trans (show _ = some (Value.int .i64 n2) from rfl); have cHY_2 := (blk_cell HY.out 2).trans (show _ = some (Value.slice Ay ny cy) from rfl); have cy0 := cell_under HY0.out.1 HB.out; have cy1 := cell_under HY0.out.2.1 HB.out; have cy2 := cell_under HY0.out.2.2 HB.out)))
        go_ret
        have ht := HT.out
        subst ht
        exact ⟨rfl, HB.out⟩
      · skip
        go_wp2_with (first
          | ((with_reducible refine gate_dst (N := 8) rfl ?_); go_loud (refine box_event ?hg (N := 8) ?hd (cs := #[.int .i64 0, .int .i64 0, .slice none 0 0]) (t := 41) ?hr ?_; (case hd => rfl); (case hg => rfl); (case hr => first | kernel_rfl | (go_simp; done) | (go_simp; rfl)); intro ga hg w_ hx hb; clear cy0 cy1 cy2; have GE_HX := Aside0.mk (show w.heap.size ≤ ga by rw [hg]; exact HB.out.size); clear hg; replace HB := Aside0.mk (below_step HB.out hb); clear hb; have HX : Aside0 (w_.heap[ga]? = some (.cells #[.int .i64 0, .int .i64 0, .slice none 0 0] 41 (0, 0))) := ⟨hx⟩; clear hx; have cHX_0 := (blk_cell HX.out 0).trans (show _ = some (Value.int .i64 0) from rfl); have cHX_1 := (blk_cell HX.out 1).trans (show _ = some (Value.int .i64 0) from rfl); have cHX_2 := (blk_cell HX.out 2).trans (show _ = some (Value.slice none 0 0) from rfl); have cy0 := cell_under HY0.out.1 HB.out; have cy1 := cell_under HY0.out.2.1 HB.out; have cy2 := cell_under HY0.out.2.2 HB.out))
          | ((refine gate_store (t := 41) (p := 8) rfl ?_); go_loud (refine store_whole ?hgd ?hN (p := 8) (v := .tmp 21) ?ho ga (k1) (n1) (.slice Ax nx cx) rfl ?hx ?hy _ _ _ _ HX.out w.heap.size w HB.out GE_HX.out ?_; (case hgd => rfl); (case hN => rfl); (case ho => rfl); (case hx => rfl); (case hy => rfl); intro w_ hx_ ho_ hb_; clear cHX_0 cHX_1 cHX_2 cy0 cy1 cy2; clear HB; have HB := Aside0.mk hb_; clear hb_ HX; have HX : Aside0 (w_.heap[ga]? = some (.cells #[.int .i64 k1, .int .i64 n1, .slice Ax nx cx] 41 (0, 0))) := ⟨hx_⟩; clear hx_ ho_; have cHX_0 := (blk_cell HX.out 0).trans (show _ = some (Value.int .i64 k1) from rfl); have cHX_1 := (blk_cell HX.out 1).trans (show _ = some (Value.int .i64 n1) from rfl); have cHX_2 := (blk_cell HX.out 2).trans (show _ = some (Value.slice Ax nx cx) from rfl); have cy0 := cell_under HY0.out.1 HB.out; have cy1 := cell_under HY0.out.2.1 HB.out; have cy2 := cell_under HY0.out.2.2 HB.out))
          | ((with_reducible refine gate_dst (N := 9) rfl ?_); go_loud (refine box_event ?hg (N := 9) ?hd (cs := #[.int .i64 0, .int .i64 0, .slice none 0 0]) (t := 41) ?hr ?_; (case hd => rfl); (case hg => rfl); (case hr => first | kernel_rfl | (go_simp; done) | (go_simp; rfl)); intro gb hg w_ hx hb; clear cHX_0 cHX_1 cHX_2 cy0 cy1 cy2; have NE_HX_HY := Aside0.mk (show ga ≠ gb by rw [hg]; exact Nat.ne_of_lt (blk_lt HX.out)); have GE_HY := Aside0.mk (show w.heap.size ≤ gb by rw [hg]; exact HB.out.size); clear hg; replace HB := Aside0.mk (below_step HB.out hb); replace HX := Aside0.mk (blk_below HX.out hb); clear hb; have HY : Aside0 (w_.heap[gb]? = some (.cells #[.int .i64 0, .int .i64 0, .slice none 0 0] 41 (0, 0))) := ⟨hx⟩; clear hx; have cHX_0 := (blk_cell HX.out 0).trans (show _ = some (Value.int .i64 k1) from rfl); have cHX_1 := (blk_cell HX.out 1).trans (show _ = some (Value.int .i64 n1) from rfl); have cHX_2 := (blk_cell HX.out 2).trans (show _ = some (Value.slice Ax nx cx) from rfl); have cHY_0 := (blk_cell HY.out 0).trans (show _ = some (Value.int .i64 0) from rfl); have cHY_1 := (blk_cell HY.out 1).trans (show _ = some (Value.int .i64 0) from rfl); have cHY_2 := (blk_cell HY.out 2).trans (show _ = some (Value.slice none 0 0) from rfl); have cy0 := cell_under HY0.out.1 HB.out; have cy1 := cell_under HY0.out.2.1 HB.out; have cy2 := cell_under HY0.out.2.2 HB.out))
          | ((refine gate_store (t := 41) (p := 9) rfl ?_); go_loud (refine store_whole ?hgd ?hN (p := 9) (v := .tmp 25) ?ho gb (k2) (n2) (.slice Ay ny cy) rfl ?hx ?hy _ _ _ _ HY.out w.heap.size w HB.out GE_HY.out ?_; (case hgd => rfl); (case hN => rfl); (case ho => rfl); (case hx => rfl); (case hy => rfl); intro w_ hx_ ho_ hb_; clear cHX_0 cHX_1 cHX_2 cHY_0 cHY_1 cHY_2 cy0 cy1 cy2; replace HX := Aside0.mk ((ho_ _ NE_HX_HY.out).trans HX.out); clear HB; have HB := Aside0.mk hb_; clear hb_ HY; have HY : Aside0 (w_.heap[gb]? = some (.cells #[.int .i64 k2, .int .i64 n2, .slice Ay ny cy] 41 (0, 0))) := ⟨hx_⟩; clear hx_ ho_; have cHX_0 := (blk_cell HX.out 0).trans (show _ = some (Value.int .i64 k1) from rfl); have cHX_1 := (blk_cell HX.out 1).trans (show _ = some (Value.int .i64 n1) from rfl); have cHX_2 := (blk_cell HX.out 2).trans (show _ = some (Value.slice Ax nx cx) from rfl); have cHY_0 := (blk_cell HY.out 0).trans (show _ = some (Value.int .i64 k2) from rfl); have cHY_1 := (blk_cell HY.out 1).trans (show _ = some (Value.int .i64 n2) from rfl); have cHY_2 := (blk_cell HY.out 2).trans (show _ = some (Value.slice Ay ny cy) from rfl); have cy0 := cell_under HY0.out.1 HB.out; have cy1 := cell_under HY0.out.2.1 HB.out; have cy2 := cell_under HY0.out.2.2 HB.out))
          | (go_at_call 30; go_loud ((with_reducible refine (cS.out _ HB.out).mono ?_); rintro e w_ ⟨rfl, hb⟩; clear cHX_0 cHX_1 cHX_2 cHY_0 cHY_1 cHY_2 cy0 cy1 cy2; replace HB := Aside0.mk (below_step HB.out hb); replace HX := Aside0.mk (blk_below HX.out hb); replace HY := Aside0.mk (blk_below HY.out hb); clear hb; have cHX_0 := (blk_cell HX.out 0).trans (show _ = some (Value.int .i64 k1) from rfl); have cHX_1 := (blk_cell HX.out 1).trans (show _ = some (Value.int .i64 n1) from rfl); have cHX_2 := (blk_cell HX.out 2).trans (show _ = some (Value.slice Ax nx cx) from rfl); have cHY_0 := (blk_cell HY.out 0).trans (show _ = some (Value.int .i64 k2) from rfl); have cHY_1 := (blk_cell HY.out 1).trans (show _ = some (Value.int .i64 n2) from rfl); have cHY_2 := (blk_cell HY.out 2).trans (show _ = some (Value.slice Ay ny cy) from rfl); have cy0 := cell_under HY0.out.1 HB.out; have cy1 := cell_under HY0.out.2.1 HB.out; have cy2 := cell_under HY0.out.2.2 HB.out)))
        go_roundw
        case rel => exact ⟨i + 1, by omega, by go_num, ⟨by rw [HT.out]; rfl⟩, HB⟩
        case measure => simp [intOf]; omega
    · have HE : Aside0 (r = true) := ⟨by
        have := HN.out
        rw [HR.out, List.drop_of_length_le (by omega), List.drop_of_length_le (by omega)]; rfl⟩
      go_wp2
      go_ret
      have he := HE.out
      subst he
      exact ⟨rfl, HB.out⟩
end Go.Proofs.Ytnlneiiccoakjaa.P
