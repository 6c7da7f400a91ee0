/-
Plain laws on superblocks: what the reference's Right, Put and Get tell.
Conditions: none.
-/
import Derived.Test.YtjblkjknkemkdaaSuper
import Derived.Test.YtjblkjknkemkdaaPx5
import Derived.Test.YtjblkjknkemkdaaPx6
import Derived.Test.YtjblkjknkemkdaaPx8
namespace Go.Proofs.Ytjblkjknkemkdaa.Super
open Go.RowKit Go.Proofs.YtjblkjknkemkdaaW.PrintWords Go.Proofs.YtjblkjknkemkdaaW.PrintLast Go.Proofs.YtjblkjknkemkdaaW.PrintMore Go.Proofs.Ytjblkjknkemkdaa.P Go.Proofs.Ytjblkjknkemkdaa.Num Go.Proofs.Ytjblkjknkemkdaa.Plain
theorem rRight_eq (a b c d : Int) : leveeref04_Right.f a b c d = some (RS a b c d) := by
  unfold leveeref04_Right.f
  by_cases h1 : a ≥ 1
  · rw [if_pos h1]
    by_cases h2 : a ≤ 4611686018427387904
    · rw [if_pos h2, Geo.refRight_eq, Option.bind_some, RS_of h1 h2]
    · rw [if_neg h2, RS_not (fun h => h2 h.2)]
  · rw [if_neg h1, RS_not (fun h => h1 h.1)]
theorem rPut_l0 : ∀ (d k : Nat) (l : List Int), l.length + d = 252 → leveeref04_Put.l0 (k + d + 2600) l = some (l ++ List.replicate d 0 ++ putS (U (Crc.sum (l ++ List.replicate d 0))) 4, 0)
  | 0, k, l, h => by
    rw [show k + 0 + 2600 = (k + 2599) + 1 from rfl]
    unfold leveeref04_Put.l0
    rw [if_neg (by omega), refSum_eq _ l (by omega) (by omega), Option.bind_some, Bytes_4 _ _ (by omega), Option.bind_some, if_pos (by rw [putS_length]; omega), List.replicate_zero, List.append_nil]
  | d + 1, k, l, h => by
    rw [show k + (d + 1) + 2600 = (k + d + 2600) + 1 from rfl]
    unfold leveeref04_Put.l0
    rw [if_pos (by omega), if_pos (by omega), rPut_l0 d k (l ++ [0]) (by simp; omega), List.replicate_succ, List.append_assoc l [0], List.singleton_append]
theorem rPut_eq (k : Nat) (hk : 2900 ≤ k) (a b c d : Int) : leveeref04_Put.f k a b c d = some (if RS a b c d = true then (full a b c d, 0) else ([], 1)) := by
  have l0 : ([76, 86, 69, 69] : List Int).length = 4 := rfl
  have l1 : ([76, 86, 69, 69] ++ putS (IntKind.u64.wrap a) 8).length = 12 := app_len l0
  have l2 : ([76, 86, 69, 69] ++ putS (IntKind.u64.wrap a) 8 ++ putS (IntKind.u64.wrap b) 2).length = 14 := app_len l1
  have l3 : ([76, 86, 69, 69] ++ putS (IntKind.u64.wrap a) 8 ++ putS (IntKind.u64.wrap b) 2 ++ putS (IntKind.u64.wrap c) 2).length = 16 := app_len l2
  have l4 : ([76, 86, 69, 69] ++ putS (IntKind.u64.wrap a) 8 ++ putS (IntKind.u64.wrap b) 2 ++ putS (IntKind.u64.wrap c) 2 ++ putS (IntKind.u64.wrap d) 2).length = 18 := app_len l3
  unfold leveeref04_Put.f
  rw [rRight_eq, Option.bind_some]
  by_cases h : RS a b c d = true
  · obtain ⟨j, rfl⟩ : ∃ j, k = j + 234 + 2600 := ⟨k - 2834, by omega⟩
    rw [if_pos h, if_pos h, Option.bind_some, Bytes_8 _ _ (by omega), Option.bind_some, if_pos (app_lt (by omega) (by omega)), Option.bind_some, Bytes_2 _ _ (by omega), Option.bind_some, if_pos (app_lt (by omega) (by omega)), Option.bind_some, Bytes_2 _ _ (by omega), Option.bind_some, if_pos (app_lt (by omega) (by omega)), Option.bind_some, Bytes_2 _ _ (by omega), Option.bind_some, if_pos (app_lt (by omega) (by omega)), rPut_l0 234 j _ (by omega)]
    rfl
  · rw [if_neg h, if_neg h]
theorem U_wrap {x : Int} (h0 : 0 ≤ x) (h1 : x < 18446744073709551616) : U (wrap64 x) = x := by
  unfold U IntKind.wrap wrap64
  simp [IntKind.bits, IntKind.signed]
  omega
theorem take_cut (l : List Int) (a b : Nat) (h : a ≤ b) : l.take a ++ (l.take b).drop a = l.take b := by
  have h1 : (l.take b).take a = l.take a := by rw [List.take_take, Nat.min_eq_left h]
  rw [← h1, List.take_append_drop]
theorem pow_le8 : ∀ q : Nat, q ≤ 8 → (256 : Int) ^ q ≤ 18446744073709551616
  | 0, _ => by decide
  | 1, _ => by decide
  | 2, _ => by decide
  | 3, _ => by decide
  | 4, _ => by decide
  | 5, _ => by decide
  | 6, _ => by decide
  | 7, _ => by decide
  | 8, _ => by decide
  | n + 9, h => by omega
theorem put_cut {l : List Int} (hb : isBytes l) (a b : Nat) (h : b ≤ l.length) (_hab : a ≤ b) (h8 : b - a ≤ 8) : putS (U (wrap64 (cutG l a b))) (b - a) = (l.take b).drop a := by
  have hr := cut_range hb a b h
  have h2 := pow_le8 (b - a) h8
  rw [U_wrap hr.1 (by omega)]
  have h3 := putS_getS _ (cut_bytes hb a b)
  rwa [cut_length h] at h3
theorem hd_back {l : List Int} (hb : isBytes l) (hl : l.length = 256) (hm : l.take 4 = mark4) : hd (wrap64 (cutG l 4 12)) (wrap64 (cutG l 12 14)) (wrap64 (cutG l 14 16)) (wrap64 (cutG l 16 18)) = l.take 18 ++ List.replicate 234 0 := by
  unfold hd
  rw [show (8 : Nat) = 12 - 4 from rfl, put_cut hb 4 12 (by omega) (by omega) (by omega), ← hm, take_cut l 4 12 (by omega)]
  rw [show putS (U (wrap64 (cutG l 12 14))) 2 = (l.take 14).drop 12 from put_cut hb 12 14 (by omega) (by omega) (by omega), take_cut l 12 14 (by omega)]
  rw [show putS (U (wrap64 (cutG l 14 16))) 2 = (l.take 16).drop 14 from put_cut hb 14 16 (by omega) (by omega) (by omega), take_cut l 14 16 (by omega)]
  rw [show putS (U (wrap64 (cutG l 16 18))) 2 = (l.take 18).drop 16 from put_cut hb 16 18 (by omega) (by omega) (by omega), take_cut l 16 18 (by omega)]
theorem full_back {l : List Int} (hb : isBytes l) (hl : l.length = 256) (hm : l.take 4 = mark4) (hs : getS (l.drop 252) = Crc.sum (l.take 252)) :
    full (wrap64 (cutG l 4 12)) (wrap64 (cutG l 12 14)) (wrap64 (cutG l 14 16)) (wrap64 (cutG l 16 18)) = l ↔ zeroS ((l.take 252).drop 18) = true := by
  have hz : ((l.take 252).drop 18).length = 234 := cut_length (by omega)
  rw [zeroS_iff, hz]
  have h1 := hd_back hb hl hm
  constructor
  · intro h
    have h2 := congrArg (List.take 252) h
    rw [full, List.take_left' (hd_length _ _ _ _), h1] at h2
    rw [← h2, List.drop_left' (by rw [List.length_take]; omega)]
  · intro h
    have h2 : hd (wrap64 (cutG l 4 12)) (wrap64 (cutG l 12 14)) (wrap64 (cutG l 14 16)) (wrap64 (cutG l 16 18)) = l.take 252 := by rw [h1, ← h, take_cut l 18 252 (by omega)]
    unfold full
    rw [h2, ← hs]
    have h3 := putS_getS _ (drop_bytes hb 252)
    have h4 := getS_range _ (drop_bytes hb 252)
    have h5 : (l.drop 252).length = 4 := by rw [List.length_drop]; omega
    rw [h5] at h3 h4
    rw [show U (getS (l.drop 252)) = getS (l.drop 252) from u64_wrap h4.1 (by have := h4.2; omega), h3, List.take_append_drop]
theorem rGet_eq (k : Nat) (hk : 3000 ≤ k) (l : List Int) (hb : isBytes l) : leveeref04_Get.f k l = some (getF l) := by
  unfold leveeref04_Get.f getF
  by_cases h1 : l.length = 256
  · rw [if_pos (by omega), if_pos h1, if_pos (by omega)]
    by_cases h2 : (strOfNums (l.take 4)).toList = ([76, 86, 69, 69] : List UInt8)
    · rw [if_pos h2, if_pos h2, if_pos (by omega), refGet_eq k _ (drop_bytes hb 252) (by omega), Option.bind_some, List.take_of_length_le (l := l.drop 252) (i := 8) (by rw [List.length_drop]; omega), refSum_eq k _ (by rw [List.length_take]; omega) (by rw [List.length_take]; omega), Option.bind_some, sum_u64]
      by_cases h3 : getS (l.drop 252) = Crc.sum (l.take 252)
      · rw [if_pos h3, if_pos h3, if_pos (by decide), if_pos (by omega), ref_cut k hb 4 12 (by omega) (by omega) (by omega), Option.bind_some, if_pos (by decide), if_pos (by omega), ref_cut k hb 12 14 (by omega) (by omega) (by omega), Option.bind_some, if_pos (by decide), if_pos (by omega), ref_cut k hb 14 16 (by omega) (by omega) (by omega), Option.bind_some, if_pos (by decide), if_pos (by omega), ref_cut k hb 16 18 (by omega) (by omega) (by omega), Option.bind_some, rPut_eq k (by omega), Option.bind_some]
        have hm := (mark_iff (isBytes_take hb 4)).mp h2
        by_cases h4 : RS (wrap64 (cutG l 4 12)) (wrap64 (cutG l 12 14)) (wrap64 (cutG l 14 16)) (wrap64 (cutG l 16 18)) = true
        · rw [if_pos h4, if_pos h4, if_pos rfl]
          have h6 := (str_inj (full_bytes (wrap64 (cutG l 4 12)) (wrap64 (cutG l 12 14)) (wrap64 (cutG l 14 16)) (wrap64 (cutG l 16 18))) hb).trans (full_back hb h1 hm h3)
          by_cases h5 : zeroS ((l.take 252).drop 18) = true
          · rw [if_pos (h6.mpr h5), if_pos h5]
          · rw [if_neg (fun h => h5 (h6.mp h)), if_neg h5]
        · rw [if_neg h4, if_neg h4, if_neg (by decide)]
      · rw [if_neg h3, if_neg h3]
    · rw [if_neg h2, if_neg h2]
  · rw [if_neg (by omega), if_neg h1]
end Go.Proofs.Ytjblkjknkemkdaa.Super
