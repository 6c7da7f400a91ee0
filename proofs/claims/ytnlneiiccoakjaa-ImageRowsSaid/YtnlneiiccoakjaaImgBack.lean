/-
A disk that is packed comes back: the rows of its bytes, the disk of its rows, the length.
Conditions: none.
-/
import Derived.Test.YtnlneiiccoakjaaHandImgUnpack
import Derived.Test.YtnlneiiccoakjaaHandImgPack
namespace Go.Proofs.Ytnlneiiccoakjaa.P
open Go.RowKit Go.Proofs.YtnlneiiccoakjaaW.PrintWords Go.Proofs.YtnlneiiccoakjaaW.PrintLast Go.Proofs.YtnlneiiccoakjaaW.PrintMore
attribute [local go_sem] max2_int min2_int max_two min_two max_three min_three max_four min_four
set_option linter.unusedVariables false
set_option linter.unusedSimpArgs false
open Go.Proofs.Ytnlneiiccoakjaa.Num Go.Proofs.Ytnlneiiccoakjaa.Plain
/-- A row as the rows of a disk are. -/
def GoodR (m : Nat) (r : S41) : Prop := (r.f0 = 0 ∨ r.f0 = 1 ∨ r.f0 = 2) ∧ 1 ≤ r.f1 ∧ r.f1 ≤ m ∧ r.f2.length = if r.f0 = 1 then 256 * r.f1.toNat else 0
theorem kindP_is (x a : List Int) : kindP x a = 0 ∨ kindP x a = 1 ∨ kindP x a = 2 := by
  unfold kindP
  split
  · exact .inl rfl
  · split
    · exact .inr (.inr rfl)
    · exact .inr (.inl rfl)
theorem GoodR.more {m : Nat} {r : S41} (h : GoodR m r) : GoodR (m + 1) r := ⟨h.1, h.2.1, by have := h.2.2.1; omega, h.2.2.2⟩
theorem foldB_snoc : ∀ (l : List S41) (y : S41) (b : List Int), foldB (l ++ [y]) b = (foldB l b).bind (blockP y)
  | [], y, b => by
    show (blockP y b).bind (foldB []) = blockP y b
    cases blockP y b <;> rfl
  | r :: l, y, b => by
    show (blockP r b).bind (foldB (l ++ [y])) = ((blockP r b).bind (foldB l)).bind (blockP y)
    cases h : blockP r b with
    | none => rfl
    | some c => exact foldB_snoc l y c
/-- A row that can be laid behind c. -/
theorem blockP_some {k : Int} {n : Nat} {z c : List Int} (hk : k = 0 ∨ k = 1 ∨ k = 2) (h1 : 1 ≤ n) (h2 : n + c.length / 256 ≤ 4096) (hz : k = 1 → z.length = 256 * n) (hc : k = 2 → c ≠ []) :
    blockP ⟨k, (n : Int), z⟩ c = some (c ++ if k = 1 then z else if k = 2 then (List.replicate n (c.drop (c.length - 256))).flatten else List.replicate (256 * n) 0) := by
  unfold blockP
  dsimp only
  rw [if_neg (by omega), Int.toNat_natCast]
  by_cases k1 : k = 1
  · rw [if_pos k1, if_pos k1, if_pos (hz k1)]
  · rw [if_neg k1, if_neg k1]
    by_cases k2 : k = 2
    · rw [if_pos k2, if_pos k2, if_neg (hc k2)]
    · rw [if_neg k2, if_neg k2]
theorem blockP_inv {r : S41} {c d : List Int} (hm : c.length % 256 = 0) (h : blockP r c = some d) : ∃ n : Nat, r.f1 = n ∧ 1 ≤ n ∧ n + c.length / 256 ≤ 4096 ∧ (r.f0 = 2 → c ≠ []) ∧ (r.f0 = 1 → r.f2.length = 256 * n) ∧ d.length = c.length + 256 * n ∧
    d = c ++ if r.f0 = 1 then r.f2 else if r.f0 = 2 then (List.replicate n (c.drop (c.length - 256))).flatten else List.replicate (256 * n) 0 := by
  unfold blockP at h
  by_cases c1 : r.f1 < 1 ∨ 4096 - ((c.length / 256 : Nat) : Int) < r.f1
  · rw [if_pos c1] at h; cases h
  rw [if_neg c1] at h
  obtain ⟨m, hm2⟩ : ∃ m : Nat, r.f1 = (m : Int) := ⟨r.f1.toNat, by omega⟩
  rw [hm2, Int.toNat_natCast] at h
  refine ⟨m, hm2, by omega, by omega, ?_⟩
  by_cases k1 : r.f0 = 1
  · rw [if_pos k1] at h
    by_cases hl : r.f2.length = 256 * m
    · rw [if_pos hl] at h
      injection h with h
      rw [if_pos k1, ← h]
      exact ⟨fun e => by omega, fun _ => hl, by rw [List.length_append, hl], rfl⟩
    · rw [if_neg hl] at h; cases h
  · rw [if_neg k1] at h
    by_cases k2 : r.f0 = 2
    · rw [if_pos k2] at h
      by_cases hc : c = []
      · rw [if_pos hc] at h; cases h
      · rw [if_neg hc] at h
        injection h with h
        have hc0 : c.length ≠ 0 := fun e => hc (List.eq_nil_of_length_eq_zero e)
        rw [if_neg k1, if_pos k2, ← h]
        exact ⟨fun _ => hc, fun e => absurd e k1, by rw [List.length_append, flat_length (by rw [List.length_drop]; omega)], rfl⟩
    · rw [if_neg k2] at h
      injection h with h
      rw [if_neg k1, if_neg k2, ← h]
      exact ⟨fun e => absurd e k2, fun e => absurd e k1, by rw [List.length_append, List.length_replicate], rfl⟩
theorem take_chunk (b : List Int) (i : Nat) : b.take (256 * (i + 1)) = b.take (256 * i) ++ chunk b i := by
  unfold chunk
  rw [Nat.mul_add, Nat.mul_one, List.take_add]
theorem last_chunk (b : List Int) (i : Nat) (h : 256 * (i + 1) ≤ b.length) : (b.take (256 * (i + 1))).drop ((b.take (256 * (i + 1))).length - 256) = chunk b i := by
  rw [take_chunk]
  exact List.drop_left' (by rw [List.length_append, chunk_length (by omega)]; omega)
theorem zeroS_is {l : List Int} (h : zeroS l = true) : l = List.replicate l.length 0 := by
  apply List.eq_replicate_iff.mpr
  refine ⟨rfl, fun x hx => ?_⟩
  have := List.all_eq_true.mp h x hx
  simpa using this
/-- What a block's kind says. -/
theorem kindN_zero {b : List Int} {i : Nat} (h : 256 * i + 256 ≤ b.length) (hk : kindN b i = 0) : chunk b i = List.replicate 256 0 := by
  unfold kindN kindP at hk
  by_cases hz : zeroS (chunk b i) = true
  · have := zeroS_is hz
    rw [chunk_length h] at this
    exact this
  · rw [if_neg hz] at hk
    split at hk <;> cases hk
theorem kindN_two {b : List Int} {i : Nat} (hk : kindN b i = 2) : ∃ j, i = j + 1 ∧ chunk b i = chunk b j := by
  unfold kindN kindP at hk
  by_cases hz : zeroS (chunk b i) = true
  · rw [if_pos hz] at hk; cases hk
  · rw [if_neg hz] at hk
    split at hk
    · rename_i h
      cases i with
      | zero => exact absurd rfl h.1
      | succ j => exact ⟨j, rfl, h.2⟩
    · cases hk
theorem last_flat {c y : List Int} {n : Nat} (hy : y.length = 256) (h1 : 1 ≤ n) : (c ++ (List.replicate n y).flatten).drop ((c ++ (List.replicate n y).flatten).length - 256) = y := by
  obtain ⟨m, rfl⟩ : ∃ m, n = m + 1 := ⟨n - 1, by omega⟩
  rw [List.replicate_succ', List.flatten_append, List.flatten_cons, List.flatten_nil, List.append_nil, ← List.append_assoc]
  exact List.drop_left' (by simp only [List.length_append]; omega)
theorem foldB_mod : ∀ (l : List S41) (b c : List Int), b.length % 256 = 0 → foldB l b = some c → c.length % 256 = 0
  | [], b, c, h, e => by
    rw [← Option.some.inj (show some b = some c from e)]
    exact h
  | r :: l, b, c, h, e => by
    have e' : (blockP r b).bind (foldB l) = some c := e
    cases hb : blockP r b with
    | none => rw [hb] at e'; cases e'
    | some d =>
      rw [hb, Option.bind_some] at e'
      obtain ⟨n, _, _, _, _, _, hd, _⟩ := blockP_inv h hb
      exact foldB_mod l d c (by omega) e'
/-- The disk of a disk's rows. -/
theorem fold_back {b : List Int} (hl : b.length ≤ 1048576) : ∀ i, 256 * i ≤ b.length → foldB (rowsN b i) [] = some (b.take (256 * i))
  | 0, _ => rfl
  | i + 1, h => by
    have ih := fold_back hl i (by omega)
    have hx := chunk_length (b := b) (i := i) (by omega)
    have hk := kindP_is (chunk b i) (aheadN b i)
    have hk0 := kindN_zero (b := b) (i := i) (by omega)
    have hk2 := kindN_two (b := b) (i := i)
    have htl : (b.take (256 * i)).length = 256 * i := by rw [List.length_take]; omega
    have hlast := fun j (e : i = j + 1) => last_chunk b j (by omega)
    have fin : blockP ⟨kindN b i, 1, if kindN b i = 1 then chunk b i else []⟩ (b.take (256 * i)) = some (b.take (256 * (i + 1))) := by
      have hs := blockP_some (k := kindN b i) (n := 1) (z := if kindN b i = 1 then chunk b i else []) (c := b.take (256 * i)) hk (by omega) (by rw [htl]; omega) (fun e => by rw [if_pos e, hx]) (fun e => by
        obtain ⟨j, hj, _⟩ := hk2 e
        intro e2
        rw [e2] at htl
        simp at htl
        omega)
      rw [show ((1 : Nat) : Int) = 1 from rfl] at hs
      rw [hs, take_chunk]
      by_cases k1 : kindN b i = 1
      · rw [if_pos k1, if_pos k1]
      · rw [if_neg k1]
        by_cases k2 : kindN b i = 2
        · rw [if_pos k2]
          obtain ⟨j, hj, he⟩ := hk2 k2
          have e3 := hlast j hj
          rw [← hj] at e3
          rw [e3, he]
          simp
        · rw [if_neg k2, hk0 (by rcases hk with e | e | e; exact e; exact absurd e k1; exact absurd e k2)]
    unfold rowsN
    rcases snoc_cases (rowsN b i) with hr | ⟨xs, y, hr⟩
    · rw [hr] at ih ⊢
      rw [stepR_nil]
      have e0 : b.take (256 * i) = [] := (Option.some.inj ih).symm
      rw [e0] at fin
      show (blockP _ []).bind (foldB []) = _
      rw [fin]
      rfl
    · rw [hr] at ih ⊢
      rw [stepR_snoc]
      by_cases hy : y.f0 = kindN b i
      case neg =>
        rw [if_neg hy, foldB_snoc, ih]
        exact fin
      rw [if_pos hy]
      rw [foldB_snoc] at ih ⊢
      cases hf : foldB xs [] with
      | none => rw [hf] at ih; cases ih
      | some c =>
        rw [hf, Option.bind_some] at ih
        rw [Option.bind_some]
        have hcm : c.length % 256 = 0 := foldB_mod xs [] c rfl hf
        obtain ⟨n, hn, h1, h2, h3, h4, h5, h6⟩ := blockP_inv hcm ih
        rw [htl] at h5
        have hs := blockP_some (k := kindN b i) (n := n + 1) (z := y.f2 ++ if kindN b i = 1 then chunk b i else []) (c := c) hk (by omega) (by omega) (fun e => by rw [if_pos e, List.length_append, hx, h4 (hy.trans e)]; omega) (fun e => h3 (hy.trans e))
        rw [hn, show (n : Int) + 1 = ((n + 1 : Nat) : Int) from by omega, hs, take_chunk, h6, hy]
        by_cases k1 : kindN b i = 1
        · rw [if_pos k1, if_pos k1, if_pos k1, List.append_assoc]
        · rw [if_neg k1, if_neg k1]
          by_cases k2 : kindN b i = 2
          · rw [if_pos k2, if_pos k2]
            obtain ⟨j, hj, he⟩ := hk2 k2
            have e3 := hlast j hj
            have hc0 : c.length ≠ 0 := fun e => h3 (hy.trans k2) (List.eq_nil_of_length_eq_zero e)
            have hyl : (c.drop (c.length - 256)).length = 256 := by rw [List.length_drop]; omega
            rw [← hj, h6, hy, if_neg k1, if_pos k2, last_flat hyl h1] at e3
            rw [he, ← e3, List.append_assoc, List.replicate_succ', List.flatten_append, List.flatten_cons, List.flatten_nil, List.append_nil]
          · rw [if_neg k2, if_neg k2, hk0 (by rcases hk with e | e | e; exact e; exact absurd e k1; exact absurd e k2), List.append_assoc, List.replicate_append_replicate, Nat.mul_add]
theorem blocks_back {b : List Int} (hd : diskB b = true) : blocksP (rowsN b (b.length / 256)) = (b, 0) := by
  have hd' : b.length ≠ 0 ∧ b.length % 256 = 0 ∧ b.length ≤ 1048576 := of_decide_eq_true hd
  unfold blocksP
  rw [fold_back hd'.2.2 (b.length / 256) (by omega), List.take_of_length_le (by omega)]
  dsimp only
  rw [if_pos hd, if_pos (sameL_iff.mpr rfl)]
theorem rowsP_disk {b : List Int} (hd : diskB b = true) : (rowsP b).1 = rowsN b (b.length / 256) := by unfold rowsP; rw [if_pos hd]
end Go.Proofs.Ytnlneiiccoakjaa.P
