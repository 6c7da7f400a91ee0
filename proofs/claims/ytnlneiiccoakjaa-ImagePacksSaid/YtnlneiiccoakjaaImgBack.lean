/-
A disk that is packed comes back: the rows of its bytes, the disk of its rows, the length.
Conditions: none.
-/
import Derived.Test.YtnlneiiccoakjaaHandImgUnpack
import Derived.Test.YtnlneiiccoakjaaHandImgPack
namespace Go.Proofs.Ytnlneiiccoakjaa.P
open Go.RowKit Go.Proofs.YtnlneiiccoakjaaW.PrintWords Go.Proofs.YtnlneiiccoakjaaW.PrintLast Go.Proofs.YtnlneiiccoakjaaW.PrintMore
attribute [local go_sem] max2_int min2_int max_two min_two max_three min_three max_four min_four
set_option linter.unusedVariables false
set_option linter.unusedSimpArgs false
open Go.Proofs.Ytnlneiiccoakjaa.Num Go.Proofs.Ytnlneiiccoakjaa.Plain
/-- A row as the rows of a disk are. -/
def GoodR (m : Nat) (r : S41) : Prop := (r.f0 = 0 ∨ r.f0 = 1 ∨ r.f0 = 2) ∧ 1 ≤ r.f1 ∧ r.f1 ≤ m ∧ r.f2.length = if r.f0 = 1 then 256 * r.f1.toNat else 0
theorem kindP_is (x a : List Int) : kindP x a = 0 ∨ kindP x a = 1 ∨ kindP x a = 2 := by
  unfold kindP
  split
  · exact .inl rfl
  · split
    · exact .inr (.inr rfl)
    · exact .inr (.inl rfl)
theorem GoodR.more {m : Nat} {r : S41} (h : GoodR m r) : GoodR (m + 1) r := ⟨h.1, h.2.1, by have := h.2.2.1; omega, h.2.2.2⟩
theorem good_new {k : Int} {x : List Int} (m : Nat) (hk : k = 0 ∨ k = 1 ∨ k = 2) (hx : x.length = 256) : GoodR (m + 1) ⟨k, 1, if k = 1 then x else []⟩ := by
  refine ⟨hk, by show (1 : Int) ≤ 1; omega, by show (1 : Int) ≤ _; omega, ?_⟩
  show (if k = 1 then x else []).length = if k = 1 then 256 * (1 : Int).toNat else 0
  split
  · rw [hx]; rfl
  · rfl
theorem good_step {l : List S41} {m : Nat} {k : Int} {x : List Int} (hl : ∀ y ∈ l, GoodR m y) (hk : k = 0 ∨ k = 1 ∨ k = 2) (hx : x.length = 256) : ∀ y ∈ stepR l k x, GoodR (m + 1) y := by
  rcases snoc_cases l with h | ⟨xs, z, h⟩
  · subst h
    rw [stepR_nil]
    intro y hy
    rw [List.mem_singleton] at hy
    subst hy
    exact good_new m hk hx
  · subst h
    rw [stepR_snoc]
    split
    · rename_i hz
      intro y hy
      rcases List.mem_append.mp hy with hy | hy
      · exact (hl y (List.mem_append_left _ hy)).more
      · rw [List.mem_singleton] at hy
        subst hy
        obtain ⟨h0, h1, h2, h3⟩ := hl z (by simp)
        rw [hz] at h0 h3
        refine ⟨h0, by show (1 : Int) ≤ z.f1 + 1; omega, by show z.f1 + 1 ≤ _; omega, ?_⟩
        show (z.f2 ++ if k = 1 then x else []).length = if k = 1 then 256 * (z.f1 + 1).toNat else 0
        rw [List.length_append, h3]
        split
        · rw [hx]; omega
        · rfl
    · intro y hy
      rcases List.mem_append.mp hy with hy | hy
      · exact (hl y hy).more
      · rw [List.mem_singleton] at hy
        subst hy
        exact good_new m hk hx
theorem rowsN_good {b : List Int} : ∀ i, 256 * i ≤ b.length → ∀ y ∈ rowsN b i, GoodR i y
  | 0, _ => fun y hy => absurd hy (by simp [rowsN])
  | i + 1, h => good_step (rowsN_good i (by omega)) (kindP_is _ _) (chunk_length (by omega))
/-- The bytes of rows are these rows. -/
theorem rowsQ_back : ∀ (l : List S41) (k : Nat), (∀ y ∈ l, GoodR 4096 y) → l.length ≤ k → rowsQ k (l.map rowBytes).flatten = some l
  | [], k, _, _ => by cases k <;> rfl
  | r :: l, k, h, hk => by
    obtain ⟨k, rfl⟩ : ∃ j, k = j + 1 := ⟨k - 1, by rw [List.length_cons] at hk; omega⟩
    have ih := rowsQ_back l k (fun y hy => h y (List.mem_cons_of_mem _ hy)) (by rw [List.length_cons] at hk; omega)
    obtain ⟨h0, h1, h2, h3⟩ := h r (by simp)
    obtain ⟨z, hz⟩ : ∃ z, z = (l.map rowBytes).flatten := ⟨_, rfl⟩
    rw [← hz] at ih
    have hw : IntKind.u64.wrap r.f1 = r.f1 := u64_wrap (by omega) (by omega)
    have hm : r.f0 % 256 = r.f0 := by omega
    have hp : (putV r.f1 2).length = 2 := putV_length _ _
    have hq : ((r :: l).map rowBytes).flatten = r.f0 :: (putV r.f1 2 ++ (r.f2 ++ z)) := by
      rw [List.map_cons, List.flatten_cons, ← hz]
      unfold rowBytes
      rw [hw, hm]
      simp
    have hd : (r.f0 :: (putV r.f1 2 ++ (r.f2 ++ z))).drop 3 = r.f2 ++ z := by
      rw [List.drop_succ_cons, List.drop_left' hp]
    have hg : getS (((r.f0 :: (putV r.f1 2 ++ (r.f2 ++ z))).take 3).drop 1) = r.f1 := by
      rw [List.take_succ_cons, List.take_left' hp]
      show getS (putV r.f1 2) = _
      exact (getS_putS r.f1 2).trans (Int.emod_eq_of_lt (by omega) (by show r.f1 < 256 ^ 2; omega))
    rw [hq, rowsQ_step (by rw [List.length_cons, List.length_append, hp]; omega) r.f0 r.f1 rfl hg.symm, hd]
    by_cases k1 : r.f0 = 1
    · rw [if_pos k1] at h3
      rw [if_pos k1, if_neg (by rw [List.length_append]; omega), List.take_left' h3, List.drop_left' h3, ih]
      rfl
    · rw [if_neg k1] at h3
      have h4 : r.f2 = [] := List.eq_nil_of_length_eq_zero h3
      have h5 : (⟨r.f0, r.f1, []⟩ : S41) = r := by rw [← h4]
      rw [if_neg k1, h5, h4, List.nil_append, ih]
      rfl
theorem foldB_snoc : ∀ (l : List S41) (y : S41) (b : List Int), foldB (l ++ [y]) b = (foldB l b).bind (blockP y)
  | [], y, b => by
    show (blockP y b).bind (foldB []) = blockP y b
    cases blockP y b <;> rfl
  | r :: l, y, b => by
    show (blockP r b).bind (foldB (l ++ [y])) = ((blockP r b).bind (foldB l)).bind (blockP y)
    cases h : blockP r b with
    | none => rfl
    | some c => exact foldB_snoc l y c
/-- A row that can be laid behind c. -/
theorem blockP_some {k : Int} {n : Nat} {z c : List Int} (hk : k = 0 ∨ k = 1 ∨ k = 2) (h1 : 1 ≤ n) (h2 : n + c.length / 256 ≤ 4096) (hz : k = 1 → z.length = 256 * n) (hc : k = 2 → c ≠ []) :
    blockP ⟨k, (n : Int), z⟩ c = some (c ++ if k = 1 then z else if k = 2 then (List.replicate n (c.drop (c.length - 256))).flatten else List.replicate (256 * n) 0) := by
  unfold blockP
  dsimp only
  rw [if_neg (by omega), Int.toNat_natCast]
  by_cases k1 : k = 1
  · rw [if_pos k1, if_pos k1, if_pos (hz k1)]
  · rw [if_neg k1, if_neg k1]
    by_cases k2 : k = 2
    · rw [if_pos k2, if_pos k2, if_neg (hc k2)]
    · rw [if_neg k2, if_neg k2]
theorem blockP_inv {r : S41} {c d : List Int} (hm : c.length % 256 = 0) (h : blockP r c = some d) : ∃ n : Nat, r.f1 = n ∧ 1 ≤ n ∧ n + c.length / 256 ≤ 4096 ∧ (r.f0 = 2 → c ≠ []) ∧ (r.f0 = 1 → r.f2.length = 256 * n) ∧ d.length = c.length + 256 * n ∧
    d = c ++ if r.f0 = 1 then r.f2 else if r.f0 = 2 then (List.replicate n (c.drop (c.length - 256))).flatten else List.replicate (256 * n) 0 := by
  unfold blockP at h
  by_cases c1 : r.f1 < 1 ∨ 4096 - ((c.length / 256 : Nat) : Int) < r.f1
  · rw [if_pos c1] at h; cases h
  rw [if_neg c1] at h
  obtain ⟨m, hm2⟩ : ∃ m : Nat, r.f1 = (m : Int) := ⟨r.f1.toNat, by omega⟩
  rw [hm2, Int.toNat_natCast] at h
  refine ⟨m, hm2, by omega, by omega, ?_⟩
  by_cases k1 : r.f0 = 1
  · rw [if_pos k1] at h
    by_cases hl : r.f2.length = 256 * m
    · rw [if_pos hl] at h
      injection h with h
      rw [if_pos k1, ← h]
      exact ⟨fun e => by omega, fun _ => hl, by rw [List.length_append, hl], rfl⟩
    · rw [if_neg hl] at h; cases h
  · rw [if_neg k1] at h
    by_cases k2 : r.f0 = 2
    · rw [if_pos k2] at h
      by_cases hc : c = []
      · rw [if_pos hc] at h; cases h
      · rw [if_neg hc] at h
        injection h with h
        have hc0 : c.length ≠ 0 := fun e => hc (List.eq_nil_of_length_eq_zero e)
        rw [if_neg k1, if_pos k2, ← h]
        exact ⟨fun _ => hc, fun e => absurd e k1, by rw [List.length_append, flat_length (by rw [List.length_drop]; omega)], rfl⟩
    · rw [if_neg k2] at h
      injection h with h
      rw [if_neg k1, if_neg k2, ← h]
      exact ⟨fun e => absurd e k2, fun e => absurd e k1, by rw [List.length_append, List.length_replicate], rfl⟩
theorem take_chunk (b : List Int) (i : Nat) : b.take (256 * (i + 1)) = b.take (256 * i) ++ chunk b i := by
  unfold chunk
  rw [Nat.mul_add, Nat.mul_one, List.take_add]
theorem last_chunk (b : List Int) (i : Nat) (h : 256 * (i + 1) ≤ b.length) : (b.take (256 * (i + 1))).drop ((b.take (256 * (i + 1))).length - 256) = chunk b i := by
  rw [take_chunk]
  exact List.drop_left' (by rw [List.length_append, chunk_length (by omega)]; omega)
theorem zeroS_is {l : List Int} (h : zeroS l = true) : l = List.replicate l.length 0 := by
  apply List.eq_replicate_iff.mpr
  refine ⟨rfl, fun x hx => ?_⟩
  have := List.all_eq_true.mp h x hx
  simpa using this
/-- What a block's kind says. -/
theorem kindN_zero {b : List Int} {i : Nat} (h : 256 * i + 256 ≤ b.length) (hk : kindN b i = 0) : chunk b i = List.replicate 256 0 := by
  unfold kindN kindP at hk
  by_cases hz : zeroS (chunk b i) = true
  · have := zeroS_is hz
    rw [chunk_length h] at this
    exact this
  · rw [if_neg hz] at hk
    split at hk <;> cases hk
theorem kindN_two {b : List Int} {i : Nat} (hk : kindN b i = 2) : ∃ j, i = j + 1 ∧ chunk b i = chunk b j := by
  unfold kindN kindP at hk
  by_cases hz : zeroS (chunk b i) = true
  · rw [if_pos hz] at hk; cases hk
  · rw [if_neg hz] at hk
    split at hk
    · rename_i h
      cases i with
      | zero => exact absurd rfl h.1
      | succ j => exact ⟨j, rfl, h.2⟩
    · cases hk
theorem last_flat {c y : List Int} {n : Nat} (hy : y.length = 256) (h1 : 1 ≤ n) : (c ++ (List.replicate n y).flatten).drop ((c ++ (List.replicate n y).flatten).length - 256) = y := by
  obtain ⟨m, rfl⟩ : ∃ m, n = m + 1 := ⟨n - 1, by omega⟩
  rw [List.replicate_succ', List.flatten_append, List.flatten_cons, List.flatten_nil, List.append_nil, ← List.append_assoc]
  exact List.drop_left' (by simp only [List.length_append]; omega)
theorem foldB_mod : ∀ (l : List S41) (b c : List Int), b.length % 256 = 0 → foldB l b = some c → c.length % 256 = 0
  | [], b, c, h, e => by
    rw [← Option.some.inj (show some b = some c from e)]
    exact h
  | r :: l, b, c, h, e => by
    have e' : (blockP r b).bind (foldB l) = some c := e
    cases hb : blockP r b with
    | none => rw [hb] at e'; cases e'
    | some d =>
      rw [hb, Option.bind_some] at e'
      obtain ⟨n, _, _, _, _, _, hd, _⟩ := blockP_inv h hb
      exact foldB_mod l d c (by omega) e'
/-- The disk of a disk's rows. -/
theorem fold_back {b : List Int} (hl : b.length ≤ 1048576) : ∀ i, 256 * i ≤ b.length → foldB (rowsN b i) [] = some (b.take (256 * i))
  | 0, _ => rfl
  | i + 1, h => by
    have ih := fold_back hl i (by omega)
    have hx := chunk_length (b := b) (i := i) (by omega)
    have hk := kindP_is (chunk b i) (aheadN b i)
    have hk0 := kindN_zero (b := b) (i := i) (by omega)
    have hk2 := kindN_two (b := b) (i := i)
    have htl : (b.take (256 * i)).length = 256 * i := by rw [List.length_take]; omega
    have hlast := fun j (e : i = j + 1) => last_chunk b j (by omega)
    have fin : blockP ⟨kindN b i, 1, if kindN b i = 1 then chunk b i else []⟩ (b.take (256 * i)) = some (b.take (256 * (i + 1))) := by
      have hs := blockP_some (k := kindN b i) (n := 1) (z := if kindN b i = 1 then chunk b i else []) (c := b.take (256 * i)) hk (by omega) (by rw [htl]; omega) (fun e => by rw [if_pos e, hx]) (fun e => by
        obtain ⟨j, hj, _⟩ := hk2 e
        intro e2
        rw [e2] at htl
        simp at htl
        omega)
      rw [show ((1 : Nat) : Int) = 1 from rfl] at hs
      rw [hs, take_chunk]
      by_cases k1 : kindN b i = 1
      · rw [if_pos k1, if_pos k1]
      · rw [if_neg k1]
        by_cases k2 : kindN b i = 2
        · rw [if_pos k2]
          obtain ⟨j, hj, he⟩ := hk2 k2
          have e3 := hlast j hj
          rw [← hj] at e3
          rw [e3, he]
          simp
        · rw [if_neg k2, hk0 (by rcases hk with e | e | e; exact e; exact absurd e k1; exact absurd e k2)]
    unfold rowsN
    rcases snoc_cases (rowsN b i) with hr | ⟨xs, y, hr⟩
    · rw [hr] at ih ⊢
      rw [stepR_nil]
      have e0 : b.take (256 * i) = [] := (Option.some.inj ih).symm
      rw [e0] at fin
      show (blockP _ []).bind (foldB []) = _
      rw [fin]
      rfl
    · rw [hr] at ih ⊢
      rw [stepR_snoc]
      by_cases hy : y.f0 = kindN b i
      case neg =>
        rw [if_neg hy, foldB_snoc, ih]
        exact fin
      rw [if_pos hy]
      rw [foldB_snoc] at ih ⊢
      cases hf : foldB xs [] with
      | none => rw [hf] at ih; cases ih
      | some c =>
        rw [hf, Option.bind_some] at ih
        rw [Option.bind_some]
        have hcm : c.length % 256 = 0 := foldB_mod xs [] c rfl hf
        obtain ⟨n, hn, h1, h2, h3, h4, h5, h6⟩ := blockP_inv hcm ih
        rw [htl] at h5
        have hs := blockP_some (k := kindN b i) (n := n + 1) (z := y.f2 ++ if kindN b i = 1 then chunk b i else []) (c := c) hk (by omega) (by omega) (fun e => by rw [if_pos e, List.length_append, hx, h4 (hy.trans e)]; omega) (fun e => h3 (hy.trans e))
        rw [hn, show (n : Int) + 1 = ((n + 1 : Nat) : Int) from by omega, hs, take_chunk, h6, hy]
        by_cases k1 : kindN b i = 1
        · rw [if_pos k1, if_pos k1, if_pos k1, List.append_assoc]
        · rw [if_neg k1, if_neg k1]
          by_cases k2 : kindN b i = 2
          · rw [if_pos k2, if_pos k2]
            obtain ⟨j, hj, he⟩ := hk2 k2
            have e3 := hlast j hj
            have hc0 : c.length ≠ 0 := fun e => h3 (hy.trans k2) (List.eq_nil_of_length_eq_zero e)
            have hyl : (c.drop (c.length - 256)).length = 256 := by rw [List.length_drop]; omega
            rw [← hj, h6, hy, if_neg k1, if_pos k2, last_flat hyl h1] at e3
            rw [he, ← e3, List.append_assoc, List.replicate_succ', List.flatten_append, List.flatten_cons, List.flatten_nil, List.append_nil]
          · rw [if_neg k2, if_neg k2, hk0 (by rcases hk with e | e | e; exact e; exact absurd e k1; exact absurd e k2), List.append_assoc, List.replicate_append_replicate, Nat.mul_add]
theorem blocks_back {b : List Int} (hd : diskB b = true) : blocksP (rowsN b (b.length / 256)) = (b, 0) := by
  have hd' : b.length ≠ 0 ∧ b.length % 256 = 0 ∧ b.length ≤ 1048576 := of_decide_eq_true hd
  unfold blocksP
  rw [fold_back hd'.2.2 (b.length / 256) (by omega), List.take_of_length_le (by omega)]
  dsimp only
  rw [if_pos hd, if_pos (sameL_iff.mpr rfl)]
theorem rowsP_disk {b : List Int} (hd : diskB b = true) : (rowsP b).1 = rowsN b (b.length / 256) := by unfold rowsP; rw [if_pos hd]
theorem head_len (b : List Int) : (packHead b).length = 6 := by
  unfold packHead
  rw [List.length_append, putV_length]
  rfl
theorem pack_len {b : List Int} (hd : diskB b = true) : (packP b).1.length = 10 + (((rowsP b).1.map rowBytes).flatten).length := by
  unfold packP
  rw [if_pos hd]
  unfold packBody
  rw [List.length_append, List.length_append, putV_length, head_len]
  omega
theorem row_len (r : S41) : (rowBytes r).length = 3 + r.f2.length := by
  unfold rowBytes
  simp only [List.length_append, putV_length, List.length_singleton]
theorem flat_snoc_len (l : List S41) (y : S41) : (((l ++ [y]).map rowBytes).flatten).length = ((l.map rowBytes).flatten).length + (3 + y.f2.length) := by
  rw [List.map_append, List.flatten_append, List.length_append, List.map_cons, List.map_nil, List.flatten_cons, List.flatten_nil, List.append_nil, row_len]
theorem flat_bound (b : List Int) : ∀ i, (((rowsN b i).map rowBytes).flatten).length ≤ 259 * i
  | 0 => Nat.le_refl _
  | i + 1 => by
    have ih := flat_bound b i
    have hc := chunk_le b i
    have hx : (if kindN b i = 1 then chunk b i else []).length ≤ 256 := by split <;> simp [hc]
    unfold rowsN
    rcases snoc_cases (rowsN b i) with hr | ⟨xs, y, hr⟩
    · rw [hr, stepR_nil]
      have := flat_snoc_len [] ⟨kindN b i, 1, if kindN b i = 1 then chunk b i else []⟩
      rw [List.nil_append] at this
      rw [this]
      simp only [List.map_nil, List.flatten_nil, List.length_nil]
      omega
    · rw [hr] at ih ⊢
      rw [stepR_snoc]
      split
      · rw [flat_snoc_len] at ih ⊢
        simp only [List.length_append]
        omega
      · rw [flat_snoc_len]
        simp only
        omega
/-- Packed and back. -/
theorem unpack_pack {b : List Int} (hd : diskB b = true) : unpackP (packP b).1 = (b, 0) := by
  have hd' : b.length ≠ 0 ∧ b.length % 256 = 0 ∧ b.length ≤ 1048576 := of_decide_eq_true hd
  obtain ⟨B, hB⟩ : ∃ B, B = packBody b (rowsP b).1 := ⟨_, rfl⟩
  have e : (packP b).1 = B ++ putV (Crc.sum B) 4 := by unfold packP; rw [if_pos hd, ← hB]
  have hp : (putV (Crc.sum B) 4).length = 4 := putV_length _ _
  have hr := Crc.sum_range B
  have hBl : 6 ≤ B.length := by rw [hB]; unfold packBody; rw [List.length_append, head_len]; omega
  have hB6 : B.drop 6 = ((rowsP b).1.map rowBytes).flatten := by
    rw [hB]; unfold packBody; exact List.drop_left' (head_len b)
  have hB4 : B.take 6 = packHead b := by
    rw [hB]; unfold packBody; exact List.take_left' (head_len b)
  have hB3 : B.take 4 = markL := by
    have : B.take 4 = (B.take 6).take 4 := by rw [List.take_take, Nat.min_eq_left (by decide)]
    rw [this, hB4]
    rfl
  have hB5 : getS ((B.take 6).drop 4) = ((b.length / 256 : Nat) : Int) := by
    rw [hB4]
    unfold packHead
    rw [u64_wrap (by omega) (by omega)]
    show getS (putV _ 2) = _
    exact (getS_putS _ 2).trans (Int.emod_eq_of_lt (by omega) (by show _ < (256 : Int) ^ 2; omega))
  rw [e]
  unfold unpackP
  have hl : (B ++ putV (Crc.sum B) 4).length = B.length + 4 := by rw [List.length_append, hp]
  rw [hl, if_neg (by omega), Nat.add_sub_cancel, List.take_append_of_le_length (by omega), hB3, if_neg (fun h => h rfl), List.drop_left' rfl, List.take_left' rfl, if_neg (fun h => h ((getS_putS _ 4).trans (Int.emod_eq_of_lt hr.1 hr.2))), hB6, List.take_append_of_le_length (by omega), hB5]
  have hgood : ∀ y ∈ (rowsP b).1, GoodR 4096 y := by
    rw [rowsP_disk hd]
    intro y hy
    obtain ⟨h0, h1, h2, h3⟩ := rowsN_good (b := b) (b.length / 256) (by omega) y hy
    exact ⟨h0, h1, by omega, h3⟩
  have hlen : (rowsP b).1.length ≤ (((rowsP b).1.map rowBytes).flatten).length := by
    generalize (rowsP b).1 = l
    induction l with
    | nil => exact Nat.le_refl _
    | cons r l ih => rw [List.map_cons, List.flatten_cons, List.length_append, List.length_cons, row_len]; omega
  unfold rowsOf
  rw [rowsQ_back _ _ hgood hlen]
  dsimp only
  rw [rowsP_disk hd, blocks_back hd]
  dsimp only
  rw [if_neg (fun h => h rfl), if_neg (fun h => h rfl)]
end Go.Proofs.Ytnlneiiccoakjaa.P
