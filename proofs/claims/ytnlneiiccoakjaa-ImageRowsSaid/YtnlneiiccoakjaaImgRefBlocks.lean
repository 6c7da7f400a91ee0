/-
What the reference's Blocks comes to: the same disk.
Conditions: none.
-/
import Derived.Test.YtnlneiiccoakjaaHandImgRefPack
import Derived.Test.YtnlneiiccoakjaaHandImgBlocks
import Derived.Test.YtnlneiiccoakjaaPx6
namespace Go.Proofs.Ytnlneiiccoakjaa.P
open Go.RowKit Go.Proofs.YtnlneiiccoakjaaW.PrintWords Go.Proofs.YtnlneiiccoakjaaW.PrintLast Go.Proofs.YtnlneiiccoakjaaW.PrintMore
attribute [local go_sem] max2_int min2_int max_two min_two max_three min_three max_four min_four
set_option linter.unusedVariables false
set_option linter.unusedSimpArgs false
open Go.Proofs.Ytnlneiiccoakjaa.Num Go.Proofs.Ytnlneiiccoakjaa.Plain
theorem rdS (l : List S41) (i : Nat) (h : i < l.length) : rd_T54 (l.map strR) (i : Int) = strR l[i] := by simp [rd_T54, h]
theorem sameB_str (x y : S41) (hx : isBytes x.f2) (hy : isBytes y.f2) : (!((strR x).f0 == (strR y).f0) || (!((strR x).f1 == (strR y).f1) || !((strR x).f2.toList == (strR y).f2.toList))) = !(sameB x y) := by
  have e : ((strR x).f2.toList == (strR y).f2.toList) = decide (x.f2 = y.f2) := by
    rw [Bool.eq_iff_iff, beq_iff_eq, decide_eq_true_iff]
    exact str_inj hx hy
  rw [e]
  unfold sameB strR
  cases (x.f0 == y.f0) <;> cases (x.f1 == y.f1) <;> cases decide (x.f2 = y.f2) <;> rfl
theorem sameRows_loop (l m : List S41) (hl : ∀ y ∈ l, isBytes y.f2) (hm : ∀ y ∈ m, isBytes y.f2) (hlen : l.length = m.length) (hs : l.length ≤ 140737488355328) : ∀ (d i k : Nat), i + d = l.length → d < k →
    leveeref32_SameRows.l0 k (l.map strR) (m.map strR) (i : Int) = some (sameL (l.drop i) (m.drop i))
  | 0, i, k, hi, hk => by
    obtain ⟨k, rfl⟩ : ∃ j, k = j + 1 := ⟨k - 1, by omega⟩
    unfold leveeref32_SameRows.l0
    rw [if_neg (by rw [List.length_map]; omega), List.drop_of_length_le (by omega), List.drop_of_length_le (by omega)]
    rfl
  | d + 1, i, k, hi, hk => by
    obtain ⟨k, rfl⟩ : ∃ j, k = j + 1 := ⟨k - 1, by omega⟩
    have h1 : i < l.length := by omega
    have h2 : i < m.length := by omega
    unfold leveeref32_SameRows.l0
    rw [if_pos (by rw [List.length_map]; omega), if_pos (by omega), if_pos (by rw [List.length_map]; omega), rdS l i h1, rdS m i h2, sameB_str _ _ (hl _ (List.getElem_mem h1)) (hm _ (List.getElem_mem h2)), sameL_drop h1 h2]
    rw [w64 (x := (i : Int) + 1) (by omega) (by omega), show (i : Int) + 1 = ((i + 1 : Nat) : Int) from by omega, sameRows_loop l m hl hm hlen hs d (i + 1) k (by omega) (by omega)]
    cases sameB l[i] m[i] <;> rfl
theorem sameL_length : ∀ {l m : List S41}, l.length ≠ m.length → sameL l m = false := fun {l m} h => by
  rw [Bool.eq_false_iff]
  intro hs
  exact h (congrArg List.length (sameL_iff.mp hs))
theorem sameRows_eq (l m : List S41) (hl : ∀ y ∈ l, isBytes y.f2) (hm : ∀ y ∈ m, isBytes y.f2) (hs : l.length ≤ 140737488355328) (k : Nat) (hk : l.length < k) : leveeref32_SameRows.f k (l.map strR) (m.map strR) = some (sameL l m) := by
  unfold leveeref32_SameRows.f
  rw [List.length_map, List.length_map]
  by_cases h : l.length = m.length
  · rw [if_pos (by omega)]
    exact sameRows_loop l m hl hm h hs l.length 0 k (by omega) hk
  · rw [if_neg (by omega), sameL_length h]
theorem l1_zeros (x0 : List S54) (x5 kd : Int) (m : Nat) (st : ByteArray) (hk2 : kd ≠ 2) (hm : m ≤ 4096) : ∀ (d i k : Nat) (b : List Int), i + d = m → b.length + 256 * d ≤ 1048576 →
    leveeref32_Blocks.l1 (k + d + 1) x0 b x5 (i : Int) kd (m : Int) st = leveeref32_Blocks.l0 k x0 (b ++ List.replicate (256 * d) 0) (wrap64 (x5 + 1))
  | 0, i, k, b, hi, hb => by
    unfold leveeref32_Blocks.l1
    rw [if_neg (by omega), Nat.mul_zero, List.replicate_zero, List.append_nil]
  | d + 1, i, k, b, hi, hb => by
    rw [show k + (d + 1) + 1 = (k + d + 1) + 1 from by omega]
    unfold leveeref32_Blocks.l1
    rw [if_pos (by omega), if_pos (by decide), Option.bind_some, if_neg hk2, if_pos (by rw [List.length_replicate]; omega), w64 (x := (i : Int) + 1) (by omega) (by omega), show (i : Int) + 1 = ((i + 1 : Nat) : Int) from by omega,
      l1_zeros x0 x5 kd m st hk2 hm d (i + 1) k (b ++ List.replicate 256 0) (by omega) (by rw [List.length_append, List.length_replicate]; omega), List.append_assoc, List.replicate_append_replicate, show 256 + 256 * d = 256 * (d + 1) from by omega]
set_option maxRecDepth 20000 in
theorem l1_same (x0 : List S54) (x5 : Int) (m : Nat) (st : ByteArray) (hm : m ≤ 4096) : ∀ (d i k : Nat) (b : List Int), i + d = m → 256 ≤ b.length → b.length + 256 * d ≤ 1048576 →
    leveeref32_Blocks.l1 (k + d + 1) x0 b x5 (i : Int) 2 (m : Int) st = leveeref32_Blocks.l0 k x0 (b ++ (List.replicate d (b.drop (b.length - 256))).flatten) (wrap64 (x5 + 1))
  | 0, i, k, b, hi, h6, hb => by
    unfold leveeref32_Blocks.l1
    rw [if_neg (by omega), List.replicate_zero, List.flatten_nil, List.append_nil]
  | d + 1, i, k, b, hi, h6, hb => by
    rw [show k + (d + 1) + 1 = (k + d + 1) + 1 from by omega]
    obtain ⟨y, hy⟩ : ∃ y, y = b.drop (b.length - 256) := ⟨_, rfl⟩
    have hyl : y.length = 256 := by rw [hy, List.length_drop]; omega
    unfold leveeref32_Blocks.l1
    rw [if_pos (by omega), if_pos (by decide), Option.bind_some, if_pos rfl, w64 (x := (b.length : Int) - 256) (by omega) (by omega), if_pos (by omega), if_pos (by omega), show ((b.length : Int) - 256).toNat = b.length - 256 from by omega, ← hy]
    have hlent : leveeref01_Lent.f y = some y := if_pos (by omega)
    have hby : (b ++ y).length = b.length + 256 := by rw [List.length_append, hyl]
    have hby1 : 256 ≤ (b ++ y).length := by omega
    have hby2 : (b ++ y).length + 256 * d ≤ 1048576 := by omega
    have hdrop : (b ++ y).drop ((b ++ y).length - 256) = y := by
      rw [List.length_append, hyl, Nat.add_sub_cancel, List.drop_left' rfl]
    rw [hlent, Option.bind_some, if_pos (by rw [hyl]; omega), w64 (x := (i : Int) + 1) (by omega) (by omega), show (i : Int) + 1 = ((i + 1 : Nat) : Int) from by omega,
      l1_same x0 x5 m st hm d (i + 1) k (b ++ y) (by omega) hby1 hby2, hdrop, List.append_assoc, List.replicate_succ, List.flatten_cons]
def endB (l : List S41) : Option (List Int) → List Int × Int
  | none => ([], 1)
  | some b => if diskB b = true then (if sameL l (rowsN b (b.length / 256)) = true then (b, 0) else ([], 1)) else ([], 1)
theorem blocksP_end (l : List S41) : blocksP l = endB l (foldB l []) := by
  unfold blocksP endB
  cases foldB l [] <;> rfl
theorem j1_eq (k : Nat) (x0 : List S54) (b : List Int) (i : Int) (f : Bool) (y0 y1 : Int) (y2 : ByteArray) : leveeref32_Blocks.j1 (k + 1) x0 b i f y0 y1 y2 = if f = true then some (([] : List Int), 1) else (if y0 = 1 then (if b.length + y2.size < 140737488355328 then leveeref32_Blocks.l0 k x0 (b ++ bytesOf y2) (wrap64 (i + 1)) else none) else leveeref32_Blocks.l1 k x0 b i 0 y0 y1 y2) := by
  rw [leveeref32_Blocks.j1]
theorem refBlocks_loop (l : List S41) (hl : ∀ y ∈ l, isBytes y.f2) (hs : l.length ≤ 140737488355328) : ∀ (d i k : Nat) (b : List Int), i + d = l.length → Fits b → 5000 * d + 20000 + l.length ≤ k →
    leveeref32_Blocks.l0 k (l.map strR) b (i : Int) = some (endB l (foldB (l.drop i) b))
  | 0, i, k, b, hi, hb, hk => by
    obtain ⟨k, rfl⟩ : ∃ j, k = j + 1 := ⟨k - 1, by omega⟩
    obtain ⟨hb1, hb2, hb3⟩ := hb
    unfold leveeref32_Blocks.l0
    rw [if_neg (by rw [List.length_map]; omega), refRows_eq b hb1 (by omega) k (by omega), Option.bind_some, List.drop_of_length_le (by omega)]
    show _ = some (if diskB b = true then _ else _)
    unfold refRowsP rowsP
    by_cases hd : diskB b = true
    · rw [if_pos hd, if_pos hd]
      dsimp only
      rw [if_pos rfl, sameRows_eq l _ hl (rowsN_f2 hb1 _) hs k (by omega), Option.bind_some]
      split <;> rfl
    · rw [if_neg hd, if_neg hd]
      rfl
  | d + 1, i, k, b, hi, hb, hk => by
    have h1 : i < l.length := by omega
    have hr := rdS l i h1
    have hrb : isBytes l[i].f2 := hl _ (List.getElem_mem h1)
    rw [List.drop_eq_getElem_cons h1]
    show _ = some (endB l ((blockP l[i] b).bind (foldB (l.drop (i + 1)))))
    have hnext : ∀ (b' : List Int) (k' : Nat), blockP l[i] b = some b' → 5000 * d + 20000 + l.length ≤ k' → leveeref32_Blocks.l0 k' (l.map strR) b' (wrap64 ((i : Int) + 1)) = some (endB l ((blockP l[i] b).bind (foldB (l.drop (i + 1))))) := fun b' k' hbl hk' => by
      rw [w64 (by omega) (by omega), show (i : Int) + 1 = ((i + 1 : Nat) : Int) from by omega, refBlocks_loop l hl hs d (i + 1) k' b' (by omega) (blockP_fits hrb hb hbl) hk', hbl]
      rfl
    obtain ⟨hb1, hb2, hb3⟩ := hb
    obtain ⟨q, hq⟩ : ∃ q, b.length = 256 * q := ⟨b.length / 256, by omega⟩
    generalize l[i] = r at hr hrb hnext
    obtain ⟨kd, cnt, f2⟩ := r
    unfold blockP at hnext ⊢
    dsimp only at hnext ⊢ hrb
    obtain ⟨k, rfl⟩ : ∃ j, k = j + 2 := ⟨k - 2, by omega⟩
    unfold leveeref32_Blocks.l0
    have hr0 : (rd_T54 (l.map strR) (i : Int)).f0 = kd := by rw [hr]; rfl
    have hr1 : (rd_T54 (l.map strR) (i : Int)).f1 = cnt := by rw [hr]; rfl
    have hr2 : (rd_T54 (l.map strR) (i : Int)).f2 = strOfNums f2 := by rw [hr]; rfl
    rw [if_pos (by rw [List.length_map]; omega), if_pos (by omega), hr0, hr1, hr2]
    rw [show wrap64 ((b.length : Int) / 256) = (q : Int) from by rw [w64 (by omega) (by omega)]; omega, w64 (x := 4096 - (q : Int)) (by omega) (by omega)]
    have hqq : ((b.length / 256 : Nat) : Int) = (q : Int) := by omega
    rw [hqq] at hnext ⊢
    by_cases c1 : cnt < 1
    · rw [if_pos c1, if_pos (Or.inl c1), j1_eq, if_pos rfl]
      rfl
    rw [if_neg c1]
    by_cases c2 : 4096 - (q : Int) < cnt
    · rw [if_pos c2, if_pos (Or.inr c2), j1_eq, if_pos rfl]
      rfl
    rw [if_neg c2]
    have c3 : ¬ (cnt < 1 ∨ 4096 - (q : Int) < cnt) := fun h => h.elim c1 c2
    rw [if_neg c3] at hnext ⊢
    obtain ⟨m, rfl⟩ : ∃ m : Nat, cnt = (m : Int) := ⟨cnt.toNat, by omega⟩
    rw [Int.toNat_natCast] at hnext ⊢
    rw [w64 (x := 256 * (m : Int)) (by omega) (by omega), strOfNums_size]
    by_cases k1 : kd = 1
    · rw [if_pos k1] at hnext ⊢
      rw [if_pos k1]
      by_cases c4 : f2.length = 256 * m
      · rw [if_pos c4] at hnext ⊢
        rw [if_pos (by omega), if_neg (by omega), j1_eq, if_neg (by decide), if_pos k1, strOfNums_size, if_pos (by omega), bytesOf_str _ hrb]
        exact hnext _ k rfl (by omega)
      · rw [if_neg c4, if_neg (by omega), j1_eq, if_pos rfl]
        rfl
    · rw [if_neg k1] at hnext ⊢
      rw [if_neg k1]
      by_cases k2 : kd = 2
      · rw [if_pos k2] at hnext ⊢
        rw [if_pos k2, j1_eq]
        by_cases c5 : b = []
        · rw [if_pos c5, c5, if_pos (show ((([] : List Int).length : Int) == 0) = true from by decide)]
          rfl
        · rw [if_neg c5] at hnext ⊢
          have hb0 : b.length ≠ 0 := fun h => c5 (List.length_eq_zero_iff.mp h)
          rw [if_neg (by rw [beq_iff_eq]; omega), if_neg k1, k2]
          obtain ⟨k', hk'⟩ : ∃ k', k = k' + m + 1 := ⟨k - m - 1, by omega⟩
          rw [hk', show (0 : Int) = ((0 : Nat) : Int) from rfl, l1_same _ _ m _ (by omega) m 0 k' b (by omega) (by omega) (by omega)]
          exact hnext _ k' rfl (by omega)
      · rw [if_neg k2] at hnext ⊢
        rw [if_neg k2, j1_eq, if_neg (by decide), if_neg k1]
        obtain ⟨k', hk'⟩ : ∃ k', k = k' + m + 1 := ⟨k - m - 1, by omega⟩
        rw [hk', show (0 : Int) = ((0 : Nat) : Int) from rfl, l1_zeros _ _ kd m _ k2 (by omega) m 0 k' b (by omega) (by omega)]
        exact hnext _ k' rfl (by omega)
theorem refBlocks_eq (l : List S41) (hl : ∀ y ∈ l, isBytes y.f2) (hs : l.length ≤ 140737488355328) (k : Nat) (hk : 5001 * l.length + 20000 ≤ k) : leveeref32_Blocks.f k (l.map strR) = some (blocksP l) := by
  unfold leveeref32_Blocks.f
  rw [blocksP_end]
  exact refBlocks_loop l hl hs l.length 0 k [] (by omega) ⟨fun x hx => absurd hx (by simp), rfl, Nat.zero_le _⟩ (by omega)
end Go.Proofs.Ytnlneiiccoakjaa.P
