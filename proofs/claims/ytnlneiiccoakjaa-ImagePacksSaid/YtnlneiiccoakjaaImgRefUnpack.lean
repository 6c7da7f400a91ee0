/-
What the reference's Unpack comes to.
Conditions: none.
-/
import Derived.Test.YtnlneiiccoakjaaImgRefBlocks
import Derived.Test.YtnlneiiccoakjaaHandImgUnpack
import Derived.Test.YtnlneiiccoakjaaPx8
namespace Go.Proofs.Ytnlneiiccoakjaa.P
open Go.RowKit Go.Proofs.YtnlneiiccoakjaaW.PrintWords Go.Proofs.YtnlneiiccoakjaaW.PrintLast Go.Proofs.YtnlneiiccoakjaaW.PrintMore
attribute [local go_sem] max2_int min2_int max_two min_two max_three min_three max_four min_four
set_option linter.unusedVariables false
set_option linter.unusedSimpArgs false
open Go.Proofs.Ytnlneiiccoakjaa.Num Go.Proofs.Ytnlneiiccoakjaa.Plain
def finU (p : List Int) (l : List S41) : List Int × Int := if (blocksP l).2 ≠ 0 then ([], 8) else if (((blocksP l).1.length / 256 : Nat) : Int) ≠ getS ((p.take 6).drop 4) then ([], 8) else ((blocksP l).1, 0)
def endU (p : List Int) (L : List S41) : Option (List S41) → List Int × Int
  | none => ([], 8)
  | some l => finU p (L ++ l)
theorem endU_cons (p : List Int) (L : List S41) (r : S41) (o : Option (List S41)) : endU p L (o.map fun l => r :: l) = endU p (L ++ [r]) o := by
  cases o with
  | none => rfl
  | some l => show finU p (L ++ (r :: l)) = finU p (L ++ [r] ++ l); rw [List.append_assoc]; rfl
theorem blocksP_small (l : List S41) : (blocksP l).1.length ≤ 1048576 ∧ ((blocksP l).2 = 0 ∨ (blocksP l).2 = 1) := by
  unfold blocksP
  cases foldB l [] with
  | none => exact ⟨Nat.zero_le _, .inr rfl⟩
  | some b =>
    dsimp only
    by_cases hd : diskB b = true
    · rw [if_pos hd]
      have hd' : b.length ≠ 0 ∧ b.length % 256 = 0 ∧ b.length ≤ 1048576 := of_decide_eq_true hd
      split
      · exact ⟨hd'.2.2, .inl rfl⟩
      · exact ⟨Nat.zero_le _, .inr rfl⟩
    · rw [if_neg hd]
      exact ⟨Nat.zero_le _, .inr rfl⟩
theorem cut13 (p : List Int) (n e : Nat) (h : n + 3 ≤ e) : ((((p.take e).drop n).take 3).drop 1) = (p.take (n + 3)).drop (n + 1) := by
  rw [List.take_drop, List.drop_drop, List.take_take, Nat.min_eq_left h]
theorem cutm (p : List Int) (n e m : Nat) (h : n + m ≤ e) : (((p.take e).drop n).take m) = (p.take (n + m)).drop n := by
  rw [List.take_drop, List.take_take, Nat.min_eq_left h]
theorem w64n (a : Nat) (h : a ≤ 4611686018427387904) : wrap64 (a : Int) = (a : Int) := w64 (by omega) (by omega)
theorem refUnpack_none (p : List Int) (k n e : Nat) (X : List S54) (h0 : n < e) (h3 : e < n + 3) (hs : e ≤ 40000) : leveeref32_Unpack.l0 (k + 1) p (e : Int) X (n : Int) = some ([], 8) := by
  have w1 : wrap64 ((e : Int) - (n : Int)) = ((e - n : Nat) : Int) := by rw [w64 (by omega) (by omega)]; omega
  unfold leveeref32_Unpack.l0
  rw [if_pos (by omega), w1, if_pos (by omega)]
theorem refUnpack_end (p : List Int) (hp : isBytes p) (k n e : Nat) (L : List S41) (h0 : e ≤ n) (h6 : 6 ≤ p.length) (hLb : ∀ y ∈ L, isBytes y.f2) (hL : L.length ≤ 40000) (hk : 5001 * L.length + 20000 ≤ k) : leveeref32_Unpack.l0 (k + 1) p (e : Int) (L.map strR) (n : Int) = some (finU p L) := by
  obtain ⟨hb1, hb2⟩ := blocksP_small L
  unfold leveeref32_Unpack.l0
  rw [if_neg (by omega), refBlocks_eq L hLb (by omega) k hk, Option.bind_some]
  have hg := cut_range hp 4 6 (by omega)
  have hgd : cutG p 4 6 = getS ((p.take 6).drop 4) := rfl
  have hg2 : cutG p 4 6 < 65536 := hg.2
  have hg1 := hg.1
  clear hg
  rcases hb2 with h0 | h1
  · have hfin : finU p L = if (((blocksP L).1.length / 256 : Nat) : Int) ≠ getS ((p.take 6).drop 4) then ([], 8) else ((blocksP L).1, 0) := by
      unfold finU
      rw [if_neg (fun h => h h0)]
    rw [hfin, if_pos h0, if_pos (show 4 ≤ 6 by decide), if_pos (by omega), ref_cut k hp 4 6 (by omega) (by decide) (by omega), Option.bind_some]
    rw [w64 (x := ((blocksP L).1.length : Int) / 256) (by omega) (by omega), w64 (x := cutG p 4 6) (by omega) (by omega), ← hgd]
    by_cases c1 : (((blocksP L).1.length : Int) / 256) = cutG p 4 6
    · rw [if_pos c1, if_neg (fun h => h (by omega))]
    · rw [if_neg c1, if_pos (fun h => c1 (by omega))]
  · have hfin : finU p L = ([], 8) := by
      unfold finU
      rw [if_pos (by rw [h1]; decide)]
    rw [hfin, if_neg (by rw [h1]; decide)]
theorem w_sub (a b : Nat) (h : b ≤ a) (h2 : a ≤ 4398046511104) : wrap64 ((a : Int) - (b : Int)) = ((a - b : Nat) : Int) := by rw [w64 (by omega) (by omega)]; omega
theorem w_add (a b : Nat) (h : a ≤ 4398046511104) (h2 : b ≤ 4398046511104) : wrap64 ((a : Int) + (b : Int)) = ((a + b : Nat) : Int) := by rw [w64 (by omega) (by omega)]; omega
theorem w_mul (c : Nat) (h : c ≤ 4398046511104) : wrap64 (256 * (c : Int)) = ((256 * c : Nat) : Int) := by rw [w64 (by omega) (by omega)]; omega
theorem refUnpack_step (p : List Int) (hp : isBytes p) (k n e c : Nat) (X : List S54) (h3 : n + 3 ≤ e) (he : e ≤ p.length) (hs : p.length ≤ 40000) (hX : X.length ≤ 40000) (hk : 8 < k) (hn : n < p.length) (hc2 : c < 65536) : cutG p (n + 1) (n + 3) = (c : Int) →
    leveeref32_Unpack.l0 (k + 1) p (e : Int) X (n : Int) = if p[n] = 1 then (if e - (n + 3) < 256 * c then some ([], 8) else leveeref32_Unpack.l0 k p (e : Int) (X ++ [⟨p[n], (c : Int), strOfNums ((p.take (n + 3 + 256 * c)).drop (n + 3))⟩]) ((n + 3 + 256 * c : Nat) : Int)) else leveeref32_Unpack.l0 k p (e : Int) (X ++ [⟨p[n], (c : Int), ⟨#[]⟩⟩]) ((n + 3 : Nat) : Int) := by
  have hX2 : X.length < 4398046511104 := by omega
  have d1 : (n : Int) < (e : Int) := by omega
  have d2 : ¬ ((e - n : Nat) : Int) < 3 := by omega
  have d3 : (0 : Int) ≤ (n : Int) := by omega
  have d4 : (n : Int) < (p.length : Int) := by omega
  have d5 : (0 : Int) ≤ ((n + 1 : Nat) : Int) := by omega
  have d6 : ((n + 1 : Nat) : Int) ≤ ((n + 3 : Nat) : Int) := by omega
  have d7 : ((n + 3 : Nat) : Int) ≤ (p.length : Int) := by omega
  have g0 : e - (n + 3) < 256 * c → ((e - (n + 3) : Nat) : Int) < ((256 * c : Nat) : Int) := fun h => by omega
  have g1 : ¬ e - (n + 3) < 256 * c → ¬ ((e - (n + 3) : Nat) : Int) < ((256 * c : Nat) : Int) := fun h => by omega
  have g2 : ¬ e - (n + 3) < 256 * c → ((n + 3 + 256 * c : Nat) : Int) ≤ (p.length : Int) := fun h => by omega
  have g3 : ((n + 3 : Nat) : Int) ≤ ((n + 3 + 256 * c : Nat) : Int) := by omega
  have g4 : (0 : Int) ≤ ((n + 3 : Nat) : Int) := by omega
  have b1 : n ≤ e := by omega
  have b8 : n + 3 ≤ p.length := by omega
  have b2 : e ≤ 4398046511104 := by omega
  have b3 : n + 3 ≤ 4398046511104 := by omega
  have b4 : 256 * c ≤ 4398046511104 := by omega
  have b5 : c ≤ 4398046511104 := by omega
  have b6 : n ≤ 4398046511104 := by omega
  have b7 : c ≤ 4611686018427387904 := by omega
  have w8 : wrap64 p[n] = p[n] := by
    have hkb := hp p[n] (List.getElem_mem hn)
    obtain ⟨v, hv⟩ : ∃ v, v = p[n] := ⟨_, rfl⟩
    rw [← hv] at hkb ⊢
    clear hv
    exact w64 (by omega) (by omega)
  have q1 := ref_cut k hp (n + 1) (n + 3) b8 (by omega) hk
  have w1 := w_sub e n b1 b2
  have w2 : wrap64 ((n : Int) + 1) = ((n + 1 : Nat) : Int) := w_add n 1 b6 (by decide)
  have w3 : wrap64 ((n : Int) + 3) = ((n + 3 : Nat) : Int) := w_add n 3 b6 (by decide)
  have w4 : wrap64 (c : Int) = (c : Int) := w64n c b7
  have w5 := w_mul c b5
  have w6 := w_sub e (n + 3) h3 b2
  have w7 := w_add (n + 3) (256 * c) b3 b4
  intro hc
  conv => lhs; unfold leveeref32_Unpack.l0
  rw [if_pos d1, w1, if_neg d2, if_pos d3, if_pos d4, w2, w3, if_pos d5, if_pos d6, if_pos d7, Int.toNat_natCast, Int.toNat_natCast, q1, Option.bind_some, hc, rd_eq p n hn, w8, w4, w5, w6]
  by_cases k1 : p[n] = 1
  · rw [if_pos k1, if_pos k1]
    by_cases c2 : e - (n + 3) < 256 * c
    · rw [if_pos (g0 c2), if_pos c2]
    · rw [if_neg (g1 c2), if_neg c2, if_pos g4, w7, if_pos g3, if_pos (g2 c2), if_pos hX2, Int.toNat_natCast]
  · rw [if_neg k1, if_neg k1, if_pos hX2]
theorem refUnpack_q (p : List Int) (f n e c : Nat) (h3 : n + 3 ≤ e) (he : e ≤ p.length) (hc : cutG p (n + 1) (n + 3) = (c : Int)) (hn : n < p.length) :
    rowsQ (f + 1) ((p.take e).drop n) = if p[n] = 1 then (if e - (n + 3) < 256 * c then none else (rowsQ f ((p.take e).drop (n + 3 + 256 * c))).map fun l => ⟨p[n], (c : Int), (p.take (n + 3 + 256 * c)).drop (n + 3)⟩ :: l) else (rowsQ f ((p.take e).drop (n + 3))).map fun l => ⟨p[n], (c : Int), []⟩ :: l := by
  have hql : ((p.take e).drop n).length = e - n := by rw [List.length_drop, List.length_take]; omega
  have hq3 : ((p.take e).drop n).drop 3 = (p.take e).drop (n + 3) := List.drop_drop ..
  have hq3l : ((p.take e).drop (n + 3)).length = e - (n + 3) := by rw [List.length_drop, List.length_take]; omega
  have hstep := rowsQ_step (k := f) (q := (p.take e).drop n) (by omega) p[n] (c : Int) (by
    rw [show (0 : Int) = ((0 : Nat) : Int) from rfl, rd_eq _ 0 (by omega)]
    simp) (by
    rw [cut13 p n e (by omega), ← hc]
    rfl)
  rw [hstep, hq3, hq3l, Int.toNat_natCast, List.drop_drop]
  by_cases k1 : p[n] = 1
  · rw [if_pos k1, if_pos k1]
    by_cases c2 : e - (n + 3) < 256 * c
    · rw [if_pos c2, if_pos c2]
    · rw [if_neg c2, if_neg c2, cutm p (n + 3) e (256 * c) (by omega)]
  · rw [if_neg k1, if_neg k1]
theorem str_map_snoc (L : List S41) (a b : Int) (z : List Int) : (L ++ [(⟨a, b, z⟩ : S41)]).map strR = L.map strR ++ [(⟨a, b, strOfNums z⟩ : S54)] := by rw [List.map_append]; rfl
theorem snoc_bytes {L : List S41} {a b : Int} {z : List Int} (h : ∀ y ∈ L, isBytes y.f2) (hz : isBytes z) : ∀ y ∈ L ++ [(⟨a, b, z⟩ : S41)], isBytes y.f2 := fun y hy => by
  rcases List.mem_append.mp hy with hy | hy
  · exact h y hy
  · rw [List.mem_singleton] at hy
    subst hy
    exact hz
theorem refUnpack_loop (p : List Int) (hp : isBytes p) (hs : p.length ≤ 40000) (e : Nat) (he : e ≤ p.length) (h6 : 6 ≤ p.length) (K : Nat) (hK : 5001 * 40000 + 20000 ≤ K) : ∀ (f n k : Nat) (L : List S41), n ≤ e → e - n ≤ f → L.length ≤ n → (∀ y ∈ L, isBytes y.f2) → f + K < k →
    leveeref32_Unpack.l0 k p (e : Int) (L.map strR) (n : Int) = some (endU p L (rowsQ f ((p.take e).drop n))) := by
  intro f
  induction f with
  | zero =>
    intro n k L hn hf hL hLb hk
    obtain ⟨k, rfl⟩ : ∃ j, k = j + 1 := ⟨k - 1, by omega⟩
    have hq : (p.take e).drop n = [] := List.eq_nil_of_length_eq_zero (by rw [List.length_drop, List.length_take]; omega)
    rw [refUnpack_end p hp k n e L (by omega) h6 hLb (by omega) (by omega), hq]
    show _ = some (finU p (L ++ []))
    rw [List.append_nil]
  | succ f ih =>
    intro n k L hn hf hL hLb hk
    obtain ⟨k, rfl⟩ : ∃ j, k = j + 1 := ⟨k - 1, by omega⟩
    by_cases c0 : n < e
    case neg =>
      have hq : (p.take e).drop n = [] := List.eq_nil_of_length_eq_zero (by rw [List.length_drop, List.length_take]; omega)
      rw [refUnpack_end p hp k n e L (by omega) h6 hLb (by omega) (by omega), hq]
      show _ = some (finU p (L ++ []))
      rw [List.append_nil]
    case pos =>
      by_cases c1 : e < n + 3
      · have hq : rowsQ (f + 1) ((p.take e).drop n) = none := rowsQ_small (by rw [List.length_drop, List.length_take]; omega) (by rw [List.length_drop, List.length_take]; omega)
        rw [refUnpack_none p k n e _ c0 c1 (by omega), hq]
        rfl
      have hnp : n < p.length := by omega
      have h3 : n + 3 ≤ e := by omega
      have hLm : (L.map strR).length ≤ 40000 := by rw [List.length_map]; omega
      have hk4 : 8 < k := by omega
      have hkk : f + K < k := by omega
      obtain ⟨c, hc, hc2⟩ : ∃ c : Nat, cutG p (n + 1) (n + 3) = (c : Int) ∧ c < 65536 := by
        obtain ⟨hc0, hc1⟩ := cut_range hp (n + 1) (n + 3) (by omega)
        have e2 : n + 3 - (n + 1) = 2 := by omega
        rw [e2] at hc1
        have hc3 : cutG p (n + 1) (n + 3) < 65536 := hc1
        clear hc1
        exact ⟨(cutG p (n + 1) (n + 3)).toNat, by omega, by omega⟩
      rw [refUnpack_step p hp k n e c _ h3 he hs hLm hk4 hnp hc2 hc, refUnpack_q p f n e c h3 he hc hnp]
      clear hc
      have hkb := hp p[n] (List.getElem_mem hnp)
      generalize p[n] = kd at hkb ⊢
      have hLl : ∀ x : S41, (L ++ [x]).length = L.length + 1 := fun x => by rw [List.length_append]; rfl
      by_cases k1 : kd = 1
      · rw [if_pos k1, if_pos k1]
        by_cases c2 : e - (n + 3) < 256 * c
        · rw [if_pos c2, if_pos c2]
          rfl
        · rw [if_neg c2, if_neg c2, endU_cons, ← str_map_snoc]
          exact ih (n + 3 + 256 * c) k _ (by omega) (by omega) (by rw [hLl]; omega) (snoc_bytes hLb (cut_bytes hp _ _)) hkk
      · rw [if_neg k1, if_neg k1, endU_cons]
        have e3 := str_map_snoc L kd c []
        rw [str_nil] at e3
        rw [← e3]
        exact ih (n + 3) k _ h3 (by omega) (by rw [hLl]; omega) (snoc_bytes hLb (fun v hv => absurd hv (by simp))) hkk
theorem unpackP_endU (p : List Int) (h10 : ¬ p.length < 10) (hm : p.take 4 = markL) (hg : getS (p.drop (p.length - 4)) = Crc.sum (p.take (p.length - 4))) : unpackP p = endU p [] (rowsOf ((p.take (p.length - 4)).drop 6)) := by
  unfold unpackP
  rw [if_neg h10, if_neg (fun h => h hm), if_neg (fun h => h hg)]
  cases rowsOf ((p.take (p.length - 4)).drop 6) <;> rfl
theorem refUnpack_eq (p : List Int) (hp : isBytes p) (hs : p.length ≤ 40000) (k : Nat) (hk : 210000000 ≤ k) : leveeref32_Unpack.f k p = some (unpackP p) := by
  unfold leveeref32_Unpack.f
  by_cases c0 : p.length < 10
  · rw [if_pos (by omega)]
    unfold unpackP
    rw [if_pos c0]
  rw [if_neg (by omega), if_pos (by omega)]
  have hst : (strOfNums (p.take 4)).toList = ([76, 73, 77, 71] : List UInt8) ↔ p.take 4 = markL := by
    rw [show ([76, 73, 77, 71] : List UInt8) = (strOfNums markL).toList from by rw [toList_eq]; rfl]
    exact str_inj (b := markL) (fun x hx => hp x (List.mem_of_mem_take hx)) (fun x hx => by simp [markL] at hx; omega)
  by_cases c1 : p.take 4 = markL
  case neg =>
    rw [if_neg (fun h => c1 (hst.mp h))]
    unfold unpackP
    rw [if_neg c0, if_pos c1]
  rw [if_pos (hst.mpr c1)]
  have w1 : wrap64 ((p.length : Int) - 4) = ((p.length - 4 : Nat) : Int) := by rw [w64 (by omega) (by omega)]; omega
  rw [w1, if_pos (by omega), if_pos (by omega), Int.toNat_natCast]
  have hdl : (p.drop (p.length - 4)).length = 4 := by rw [List.length_drop]; omega
  have hdb : isBytes (p.drop (p.length - 4)) := fun x hx => hp x (List.mem_of_mem_drop hx)
  rw [refGet_eq k _ hdb (by omega), Option.bind_some, List.take_of_length_le (show (p.drop (p.length - 4)).length ≤ 8 by omega), refSum_eq k (p.take (p.length - 4)) (by rw [List.length_take]; omega) (by rw [List.length_take]; omega), Option.bind_some]
  have hsr := Crc.sum_range (p.take (p.length - 4))
  rw [u64_wrap hsr.1 (by omega)]
  by_cases c2 : getS (p.drop (p.length - 4)) = Crc.sum (p.take (p.length - 4))
  · rw [if_pos c2, unpackP_endU p c0 c1 c2]
    have hr6 : ((p.take (p.length - 4)).drop 6).length ≤ 40000 := by rw [List.length_drop, List.length_take]; omega
    have hl := refUnpack_loop p hp hs (p.length - 4) (by omega) (by omega) 200060000 (by decide) ((p.take (p.length - 4)).drop 6).length 6 k [] (by omega) (by rw [List.length_drop, List.length_take]; omega) (Nat.zero_le _) (fun y hy => by cases hy) (by omega)
    exact hl
  · rw [if_neg c2]
    unfold unpackP
    rw [if_neg c0, if_neg (fun h => h c1), if_pos c2]
end Go.Proofs.Ytnlneiiccoakjaa.P
