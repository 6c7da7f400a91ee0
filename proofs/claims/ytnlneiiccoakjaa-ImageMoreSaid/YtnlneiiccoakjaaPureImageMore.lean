/-
The plain law of ImageMore: zeros behind a disk cost at most one row.
Conditions: none.
-/
import Derived.Test.YtnlneiiccoakjaaHandImgSize
import Derived.Test.YtnlneiiccoakjaaPx10
namespace Go.Proofs.Ytnlneiiccoakjaa.Pure
open Go.RowKit Go.Proofs.YtnlneiiccoakjaaW.PrintWords Go.Proofs.YtnlneiiccoakjaaW.PrintLast Go.Proofs.YtnlneiiccoakjaaW.PrintMore Go.Proofs.Ytnlneiiccoakjaa.P Go.Proofs.Ytnlneiiccoakjaa.Num Go.Proofs.Ytnlneiiccoakjaa.Plain
def lastK (l : List S41) : Option Int := l.getLast?.map (·.f0)
theorem sizeN_app (l m : List S41) : sizeN (l ++ m) = sizeN l + ((m.map rowBytes).flatten).length := by
  unfold sizeN
  rw [List.map_append, List.flatten_append, List.length_append]
  omega
theorem flat_one (r : S41) : (([r].map rowBytes).flatten).length = 3 + r.f2.length := by
  rw [List.map_cons, List.map_nil, List.flatten_cons, List.flatten_nil, List.append_nil, rowBytes_len]
theorem lastK_snoc (l : List S41) (y : S41) : lastK (l ++ [y]) = some y.f0 := by
  unfold lastK
  rw [List.getLast?_concat]
  rfl
theorem step_last (l : List S41) (k : Int) (x : List Int) : lastK (stepR l k x) = some k := by
  rcases snoc_cases l with h | ⟨xs, z, h⟩
  · subst h
    rw [stepR_nil]
    rfl
  · subst h
    rw [stepR_snoc]
    split <;> rw [lastK_snoc]
theorem step_size0 (l : List S41) (x : List Int) : sizeN (stepR l 0 x) = sizeN l + (if lastK l = some 0 then 0 else 3) := by
  rcases snoc_cases l with h | ⟨xs, z, h⟩
  · subst h
    rw [stepR_nil]
    rfl
  · subst h
    rw [stepR_snoc, lastK_snoc]
    by_cases hz : z.f0 = 0
    · rw [if_pos hz, hz, if_pos rfl, sizeN_app, sizeN_app, flat_one, flat_one]
      simp
    · rw [if_neg hz, if_neg (fun h => hz (Option.some.inj h)), sizeN_app, flat_one]
      simp
theorem chunk_app {l z : List Int} {i : Nat} (h : 256 * i + 256 ≤ l.length) : chunk (l ++ z) i = chunk l i := by
  unfold chunk
  rw [List.drop_append_of_le_length (by omega), List.take_append_of_le_length (by rw [List.length_drop]; omega)]
theorem ahead_app {l z : List Int} : ∀ {i : Nat}, 256 * i ≤ l.length → aheadN (l ++ z) i = aheadN l i
  | 0, _ => rfl
  | i + 1, h => chunk_app (by omega)
theorem rows_app {l z : List Int} : ∀ {i : Nat}, 256 * i ≤ l.length → rowsN (l ++ z) i = rowsN l i
  | 0, _ => rfl
  | i + 1, h => by
    unfold rowsN
    rw [rows_app (i := i) (by omega), chunk_app (by omega)]
    unfold kindN
    rw [ahead_app (by omega), chunk_app (by omega)]
theorem zeroS_rep (n : Nat) : zeroS (List.replicate n 0) = true := by
  unfold zeroS
  simp
theorem chunk_zero {l : List Int} {m n i : Nat} (hl : l.length = 256 * m) (h1 : m ≤ i) (h2 : 256 * i + 256 ≤ l.length + n) : chunk (l ++ List.replicate n 0) i = List.replicate 256 0 := by
  unfold chunk
  rw [List.drop_append, List.drop_of_length_le (by omega), List.nil_append, List.drop_replicate, List.take_replicate, Nat.min_eq_left (by omega)]
theorem rows_more {l : List Int} {m n : Nat} (hl : l.length = 256 * m) : ∀ j : Nat, 256 * (j + 1) ≤ n → sizeN (rowsN (l ++ List.replicate n 0) (m + (j + 1))) = sizeN (rowsN l m) + (if lastK (rowsN l m) = some 0 then 0 else 3) ∧ lastK (rowsN (l ++ List.replicate n 0) (m + (j + 1))) = some 0
  | 0, h => by
    have hk : kindN (l ++ List.replicate n 0) m = 0 := by
      unfold kindN kindP
      rw [chunk_zero hl (Nat.le_refl _) (by omega), if_pos (zeroS_rep _)]
    show sizeN (stepR _ _ _) = _ ∧ lastK (stepR _ _ _) = _
    rw [hk, step_size0, step_last, rows_app (by omega)]
    exact ⟨rfl, rfl⟩
  | j + 1, h => by
    obtain ⟨h1, h2⟩ := rows_more (n := n) hl j (by omega)
    have hk : kindN (l ++ List.replicate n 0) (m + (j + 1)) = 0 := by
      unfold kindN kindP
      rw [chunk_zero hl (by omega) (by omega), if_pos (zeroS_rep _)]
    show sizeN (stepR (rowsN (l ++ List.replicate n 0) (m + (j + 1))) (kindN (l ++ List.replicate n 0) (m + (j + 1))) (chunk (l ++ List.replicate n 0) (m + (j + 1)))) = _ ∧ lastK (stepR (rowsN (l ++ List.replicate n 0) (m + (j + 1))) (kindN (l ++ List.replicate n 0) (m + (j + 1))) (chunk (l ++ List.replicate n 0) (m + (j + 1)))) = _
    rw [hk, step_size0, step_last, h2, h1, if_pos rfl]
    exact ⟨rfl, rfl⟩
theorem last_zero {l : List Int} {m : Nat} (hl : l.length = 256 * m) (hm : 0 < m) : lastK (rowsN l m) = some 0 ↔ zeroS (l.drop (l.length - 256)) = true := by
  obtain ⟨i, rfl⟩ : ∃ i, m = i + 1 := ⟨m - 1, by omega⟩
  show lastK (stepR _ _ _) = _ ↔ _
  rw [step_last]
  have hc : chunk l i = l.drop (l.length - 256) := by
    unfold chunk
    rw [show l.length - 256 = 256 * i from by omega]
    exact List.take_of_length_le (by rw [List.length_drop]; omega)
  unfold kindN kindP
  rw [hc]
  constructor
  · intro h
    have h := Option.some.inj h
    by_cases hz : zeroS (l.drop (l.length - 256)) = true
    · exact hz
    · rw [if_neg hz] at h
      revert h
      split <;> intro h <;> exact absurd h (by decide)
  · intro h
    rw [if_pos h]
theorem size_le (b : List Int) (i : Nat) (h : i ≤ 4096) : sizeN (rowsN b i) ≤ 10 + 1048579 * 4096 := by
  have hok := rowsN_ok b i
  have : ∀ l : List S41, (∀ y ∈ l, y.f2.length ≤ 1048576) → ((l.map rowBytes).flatten).length ≤ 1048579 * l.length := by
    intro l
    induction l with
    | nil => intro _; simp
    | cons y l ih =>
      intro h
      have ih := ih fun z hz => h z (List.mem_cons_of_mem _ hz)
      have hy := h y (by simp)
      rw [List.map_cons, List.flatten_cons, List.length_append, List.length_cons, Nat.mul_add, rowBytes_len]
      omega
  have h1 := this (rowsN b i) fun y hy => by have := (hok.2 y hy).2.2; omega
  unfold sizeN
  have h2 := Nat.mul_le_mul_left 1048579 (show (rowsN b i).length ≤ 4096 by have := hok.1; omega)
  omega
theorem ImageMore : leveelaw32_ImageMore.Pure := by
  intro l a _ _ hw _
  refine ⟨1000, ?_⟩
  have hb := isBytes_of_wf hw
  unfold leveelaw32_ImageMore.f
  by_cases h0 : (l.length : Int) > 20000
  · rw [if_pos h0]; rfl
  rw [if_neg h0]
  have hs1 : image_Size.f l = some (sizeP l) := by unfold image_Size.f; rw [if_pos (bytesB_iff.mpr hb)]
  rw [hs1, Option.bind_some]
  obtain ⟨r, hr, hr0, hr1⟩ := Count_eq a 9 (by omega) (by omega)
  rw [hr, Option.bind_some, if_pos (by rw [List.length_nil, Nat.zero_add]; omega), List.nil_append, Option.bind_some]
  obtain ⟨n, rfl⟩ := Int.eq_ofNat_of_zero_le hr0
  rw [w64 (x := 1 + (n : Int)) (by omega) (by omega), w64 (x := 256 * (1 + (n : Int))) (by omega) (by omega), if_pos (by omega)]
  obtain ⟨z, hz⟩ : ∃ z : Nat, z = 256 * (n + 1) := ⟨_, rfl⟩
  rw [show 256 * (1 + (n : Int)) = (z : Int) from by omega, Int.toNat_natCast, if_pos (by omega)]
  have hb2 : bytesB (l ++ List.replicate z 0) = true := bytesB_iff.mpr fun x hx => by
    rcases List.mem_append.mp hx with hx | hx
    · exact hb x hx
    · rw [List.eq_of_mem_replicate hx]; decide
  have hs2 : image_Size.f (l ++ List.replicate z 0) = some (sizeP (l ++ List.replicate z 0)) := by unfold image_Size.f; rw [if_pos hb2]
  rw [hs2, Option.bind_some]
  by_cases hd : diskB l = true
  case neg =>
    have e : sizeP l = (0, 1) := by unfold sizeP; rw [if_neg hd]
    rw [e]
    rfl
  have hd' : l.length ≠ 0 ∧ l.length % 256 = 0 ∧ l.length ≤ 1048576 := of_decide_eq_true hd
  obtain ⟨m, hm⟩ : ∃ m, l.length = 256 * m := ⟨l.length / 256, by omega⟩
  have hl2 : (l ++ List.replicate z 0).length = 256 * (m + (n + 1)) := by rw [List.length_append, List.length_replicate]; omega
  have hd2 : diskB (l ++ List.replicate z 0) = true := by
    unfold diskB
    exact decide_eq_true ⟨by omega, by omega, by omega⟩
  have e1 : sizeP l = (((sizeN (rowsN l m) : Nat) : Int), 0) := by
    unfold sizeP rowsP
    rw [if_pos hd, if_pos hd, show l.length / 256 = m from by omega]
  have e2 : sizeP (l ++ List.replicate z 0) = (((sizeN (rowsN (l ++ List.replicate z 0) (m + (n + 1))) : Nat) : Int), 0) := by
    unfold sizeP rowsP
    rw [if_pos hd2, if_pos hd2, hl2, show 256 * (m + (n + 1)) / 256 = m + (n + 1) from by omega]
  obtain ⟨h1, _⟩ := rows_more (n := z) hm n (by omega)
  rw [e1, e2, h1]
  have hle := size_le l m (by omega)
  have hlz := last_zero hm (by omega)
  generalize sizeN (rowsN l m) = s at hle
  rw [if_pos rfl, w64 (x := (l.length : Int) - 256) (by omega) (by omega), if_pos (by omega), if_pos (by omega)]
  rw [show ((l.length : Int) - 256).toNat = l.length - 256 from by omega]
  rw [refZero_eq 1000 _ (by rw [List.length_drop]; omega) (by rw [List.length_drop]; omega), Option.bind_some, if_pos rfl]
  by_cases hz2 : zeroS (l.drop (l.length - 256)) = true
  · rw [if_pos hz2, if_pos (hlz.mpr hz2), if_pos (by omega)]
    rfl
  · rw [if_neg hz2, if_neg (fun h => hz2 (hlz.mp h))]
    dsimp only
    rw [w64 (x := (s : Int) + 3) (by omega) (by omega), if_pos (by omega)]
    rfl
end Go.Proofs.Ytnlneiiccoakjaa.Pure
