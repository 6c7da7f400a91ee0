/-
Plain laws on superblocks: what the printed functions of package super tell, as one function each.
Conditions: none.
-/
import Derived.Test.YtjblkjknkemkdaaPlain
import Derived.Test.YtjblkjknkemkdaaGeoI
import Derived.Test.YtjblkjknkemkdaaHandSuperChoose
import Derived.Test.YtjblkjknkemkdaaPx4
import Derived.Test.YtjblkjknkemkdaaPx10
import Derived.Test.YtjblkjknkemkdaaPx15
namespace Go.Proofs.Ytjblkjknkemkdaa.Super
open Go.RowKit Go.Proofs.YtjblkjknkemkdaaW.PrintWords Go.Proofs.YtjblkjknkemkdaaW.PrintLast Go.Proofs.YtjblkjknkemkdaaW.PrintMore Go.Proofs.Ytjblkjknkemkdaa.P Go.Proofs.Ytjblkjknkemkdaa.Num Go.Proofs.Ytjblkjknkemkdaa.Plain
/-- Whether a superblock can be. -/
def RS (a b c d : Int) : Bool := decide (1 ≤ a ∧ a ≤ 4611686018427387904 ∧ Geo.R b c d = true)
theorem RS_iff {a b c d : Int} : RS a b c d = true ↔ 1 ≤ a ∧ a ≤ 4611686018427387904 ∧ Geo.R b c d = true := by simp [RS]
theorem RS_of {a b c d : Int} (h1 : 1 ≤ a) (h2 : a ≤ 4611686018427387904) : Geo.R b c d = RS a b c d := by
  rw [Bool.eq_iff_iff, RS_iff]
  exact ⟨fun h => ⟨h1, h2, h⟩, fun h => h.2.2⟩
theorem RS_not {a b c d : Int} (h : ¬ (1 ≤ a ∧ a ≤ 4611686018427387904)) : RS a b c d = false := by
  rw [Bool.eq_false_iff]
  intro h2
  rw [RS_iff] at h2
  exact h ⟨h2.1, h2.2.1⟩
theorem sRight_eq (k : Nat) (hk : 2 ≤ k) (a b c d : Int) : super_Super_right.f k a b c d = some (RS a b c d) := by
  obtain ⟨k, rfl⟩ : ∃ m, k = m + 2 := ⟨k - 2, by omega⟩
  unfold super_Super_right.f
  by_cases h1 : a ≥ 1
  · rw [if_pos h1]
    by_cases h2 : a ≤ 4611686018427387904
    · rw [if_pos h2, Geo.Right_eq, Option.bind_some, RS_of h1 h2]
    · rw [if_neg h2, RS_not (fun h => h2 h.2)]
  · rw [if_neg h1, RS_not (fun h => h1 h.1)]
abbrev U (x : Int) : Int := IntKind.u64.wrap x
/-- A superblock's bytes ahead of its sum. -/
def hd (a b c d : Int) : List Int := mark4 ++ putS (U a) 8 ++ putS (U b) 2 ++ putS (U c) 2 ++ putS (U d) 2 ++ List.replicate 234 0
def full (a b c d : Int) : List Int := hd a b c d ++ putS (U (Crc.sum (hd a b c d))) 4
theorem hd_length (a b c d : Int) : (hd a b c d).length = 252 := by
  simp only [hd, List.length_append, putS_length, List.length_replicate]
  rfl
theorem full_length (a b c d : Int) : (full a b c d).length = 256 := by simp [full, hd_length, putS_length]
theorem isBytes_append {l m : List Int} (hl : isBytes l) (hm : isBytes m) : isBytes (l ++ m) := by
  intro x hx
  rcases List.mem_append.mp hx with h | h
  · exact hl x h
  · exact hm x h
theorem isBytes_zeros (n : Nat) : isBytes (List.replicate n 0) := by
  intro x hx
  rw [(List.mem_replicate.mp hx).2]
  omega
theorem mark_bytes : isBytes mark4 := by
  intro x hx
  simp [mark4] at hx
  omega
theorem hd_bytes (a b c d : Int) : isBytes (hd a b c d) :=
  isBytes_append (isBytes_append (isBytes_append (isBytes_append (isBytes_append mark_bytes (putS_bytes _ _)) (putS_bytes _ _)) (putS_bytes _ _)) (putS_bytes _ _)) (isBytes_zeros _)
theorem full_bytes (a b c d : Int) : isBytes (full a b c d) := isBytes_append (hd_bytes a b c d) (putS_bytes _ _)
theorem splice_zeros (A M : List Int) (off m n q : Nat) (hA : A.length = off) (hM : M.length = m) (hq : q = m + n) : splice (A ++ List.replicate q 0) off M = A ++ M ++ List.replicate n 0 := by
  subst hA hM hq
  simp [splice, List.drop_append]
theorem superL_eq (a b c d : Int) : superL a b c d = full a b c d := by
  have e0 : splice (List.replicate 256 0) 0 mark4 = mark4 ++ List.replicate 252 0 := by rfl
  have l0 : mark4.length = 4 := rfl
  have l1 : (mark4 ++ putS (U a) 8).length = 12 := by simp [putS_length, l0]
  have l2 : (mark4 ++ putS (U a) 8 ++ putS (U b) 2).length = 14 := by rw [List.length_append, l1, putS_length]
  have l3 : (mark4 ++ putS (U a) 8 ++ putS (U b) 2 ++ putS (U c) 2).length = 16 := by rw [List.length_append, l2, putS_length]
  have e1 : splice (mark4 ++ List.replicate 252 0) 4 (putV (U a) 8) = mark4 ++ putS (U a) 8 ++ List.replicate 244 0 := splice_zeros _ _ 4 8 244 252 l0 (putS_length _ _) rfl
  have e2 : splice (mark4 ++ putS (U a) 8 ++ List.replicate 244 0) 12 (putV (U b) 2) = mark4 ++ putS (U a) 8 ++ putS (U b) 2 ++ List.replicate 242 0 := splice_zeros _ _ 12 2 242 244 l1 (putS_length _ _) rfl
  have e3 : splice (mark4 ++ putS (U a) 8 ++ putS (U b) 2 ++ List.replicate 242 0) 14 (putV (U c) 2) = mark4 ++ putS (U a) 8 ++ putS (U b) 2 ++ putS (U c) 2 ++ List.replicate 240 0 := splice_zeros _ _ 14 2 240 242 l2 (putS_length _ _) rfl
  have e4 : splice (mark4 ++ putS (U a) 8 ++ putS (U b) 2 ++ putS (U c) 2 ++ List.replicate 240 0) 16 (putV (U d) 2) = mark4 ++ putS (U a) 8 ++ putS (U b) 2 ++ putS (U c) 2 ++ putS (U d) 2 ++ List.replicate 238 0 := splice_zeros _ _ 16 2 238 240 l3 (putS_length _ _) rfl
  have e5 : mark4 ++ putS (U a) 8 ++ putS (U b) 2 ++ putS (U c) 2 ++ putS (U d) 2 ++ List.replicate 238 0 = hd a b c d ++ List.replicate 4 0 := by
    unfold hd
    rw [List.append_assoc _ (List.replicate 234 0), List.replicate_append_replicate]
  unfold superL
  rw [e0, e1, e2, e3, e4, e5, List.take_left' (hd_length a b c d)]
  exact (splice_zeros _ _ 252 4 0 4 (hd_length a b c d) (putS_length _ _) rfl).trans (List.append_nil _)
theorem sPut_eq (k : Nat) (hk : 2 ≤ k) (a b c d : Int) : super_Put.f k a b c d = some (if RS a b c d = true then (full a b c d, 0) else ([], 1)) := by
  unfold super_Put.f
  rw [sRight_eq k hk, Option.bind_some, superL_eq]
  by_cases h : RS a b c d = true
  · rw [if_pos h, if_pos h]
  · rw [if_neg h, if_neg h]
theorem sum_u64 (l : List Int) : IntKind.u64.wrap (Crc.sum l) = Crc.sum l := u64_wrap (Crc.sum_range l).1 (by have := (Crc.sum_range l).2; omega)
/-- What bytes say. -/
def getF (l : List Int) : Int × Int × Int × Int × Int :=
  if l.length = 256 then
    if (strOfNums (l.take 4)).toList = ([76, 86, 69, 69] : List UInt8) then
      if getS (l.drop 252) = Crc.sum (l.take 252) then
        if RS (wrap64 (cutG l 4 12)) (wrap64 (cutG l 12 14)) (wrap64 (cutG l 14 16)) (wrap64 (cutG l 16 18)) = true then
          if zeroS ((l.take 252).drop 18) = true then (wrap64 (cutG l 4 12), wrap64 (cutG l 12 14), wrap64 (cutG l 14 16), wrap64 (cutG l 16 18), 0) else (0, 0, 0, 0, 8)
        else (0, 0, 0, 0, 1)
      else (0, 0, 0, 0, 7)
    else (0, 0, 0, 0, 8)
  else (0, 0, 0, 0, 4)
theorem drop_bytes {l : List Int} (h : isBytes l) (n : Nat) : isBytes (l.drop n) := fun x hx => h x (List.mem_of_mem_drop hx)
theorem sGet_eq (k : Nat) (hk : 300 ≤ k) (l : List Int) (hb : isBytes l) : super_Get.f k l = some (getF l) := by
  unfold super_Get.f getF
  by_cases h1 : l.length = 256
  · rw [if_pos h1, if_pos h1]
    by_cases h2 : (strOfNums (l.take 4)).toList = ([76, 86, 69, 69] : List UInt8)
    · rw [if_pos h2, if_pos h2, Get_eq k _ (drop_bytes hb 252) (by omega), Option.bind_some, List.take_of_length_le (by rw [List.length_drop]; omega), sum_u64]
      by_cases h3 : getS (l.drop 252) = Crc.sum (l.take 252)
      · rw [if_pos h3, if_pos h3, num_cut k hb 4 12 (by omega) (by omega) (by omega), Option.bind_some, num_cut k hb 12 14 (by omega) (by omega) (by omega), Option.bind_some, num_cut k hb 14 16 (by omega) (by omega) (by omega), Option.bind_some, num_cut k hb 16 18 (by omega) (by omega) (by omega), Option.bind_some, sRight_eq k (by omega), Option.bind_some]
        by_cases h4 : RS (wrap64 (cutG l 4 12)) (wrap64 (cutG l 12 14)) (wrap64 (cutG l 14 16)) (wrap64 (cutG l 16 18)) = true
        · rw [if_pos h4, if_pos h4, Zero_eq k _ (cut_bytes hb 18 252) (by rw [cut_length (by omega)]; omega) (by rw [cut_length (by omega)]; omega), Option.bind_some]
          by_cases h5 : zeroS ((l.take 252).drop 18) = true
          · rw [if_pos h5, if_pos h5]
          · rw [if_neg h5, if_neg h5]
        · rw [if_neg h4, if_neg h4]
      · rw [if_neg h3, if_neg h3]
    · rw [if_neg h2, if_neg h2]
  · rw [if_neg h1, if_neg h1]
theorem mark_str : (strOfNums mark4).toList = ([76, 86, 69, 69] : List UInt8) := by rw [toList_eq]; rfl
theorem mark_iff {l : List Int} (hb : isBytes l) : (strOfNums l).toList = ([76, 86, 69, 69] : List UInt8) ↔ l = mark4 := by
  rw [← mark_str]
  exact str_inj hb mark_bytes
theorem zeroS_iff (l : List Int) : zeroS l = true ↔ l = List.replicate l.length 0 := by
  unfold zeroS
  rw [List.all_eq_true]
  constructor
  · intro h
    exact List.eq_replicate_iff.mpr ⟨rfl, fun x hx => by simpa using h x hx⟩
  · intro h x hx
    have := (List.eq_replicate_iff.mp h).2 x hx
    simpa using this
theorem cut_app (A B C : List Int) (a b : Nat) (ha : A.length = a) (hb : a + B.length = b) : ((A ++ (B ++ C)).take b).drop a = B := by
  subst ha
  subst hb
  rw [← List.append_assoc, List.take_left' (by rw [List.length_append]), List.drop_left' rfl]
theorem full_cut (a b c d : Int) : ((full a b c d).take 12).drop 4 = putS (U a) 8 ∧ ((full a b c d).take 14).drop 12 = putS (U b) 2 ∧ ((full a b c d).take 16).drop 14 = putS (U c) 2 ∧ ((full a b c d).take 18).drop 16 = putS (U d) 2 ∧ ((full a b c d).take 252).drop 18 = List.replicate 234 0 ∧ (full a b c d).take 4 = mark4 := by
  generalize hs : putS (U (Crc.sum (hd a b c d))) 4 = s
  have l0 : mark4.length = 4 := rfl
  have l1 : (mark4 ++ putS (U a) 8).length = 12 := app_len l0
  have l2 : (mark4 ++ putS (U a) 8 ++ putS (U b) 2).length = 14 := app_len l1
  have l3 : (mark4 ++ putS (U a) 8 ++ putS (U b) 2 ++ putS (U c) 2).length = 16 := app_len l2
  have l4 : (mark4 ++ putS (U a) 8 ++ putS (U b) 2 ++ putS (U c) 2 ++ putS (U d) 2).length = 18 := app_len l3
  unfold full
  rw [hs]
  unfold hd
  refine ⟨?_, ?_, ?_, ?_, ?_, ?_⟩
  · have h := cut_app mark4 (putS (U a) 8) (putS (U b) 2 ++ (putS (U c) 2 ++ (putS (U d) 2 ++ (List.replicate 234 0 ++ s)))) 4 12 l0 (by rw [putS_length])
    simpa only [List.append_assoc] using h
  · have h := cut_app (mark4 ++ putS (U a) 8) (putS (U b) 2) (putS (U c) 2 ++ (putS (U d) 2 ++ (List.replicate 234 0 ++ s))) 12 14 l1 (by rw [putS_length])
    simpa only [List.append_assoc] using h
  · have h := cut_app (mark4 ++ putS (U a) 8 ++ putS (U b) 2) (putS (U c) 2) (putS (U d) 2 ++ (List.replicate 234 0 ++ s)) 14 16 l2 (by rw [putS_length])
    simpa only [List.append_assoc] using h
  · have h := cut_app (mark4 ++ putS (U a) 8 ++ putS (U b) 2 ++ putS (U c) 2) (putS (U d) 2) (List.replicate 234 0 ++ s) 16 18 l3 (by rw [putS_length])
    simpa only [List.append_assoc] using h
  · have h := cut_app (mark4 ++ putS (U a) 8 ++ putS (U b) 2 ++ putS (U c) 2 ++ putS (U d) 2) (List.replicate 234 0) s 18 252 l4 (by rw [List.length_replicate])
    simpa only [List.append_assoc] using h
  · rw [List.append_assoc, List.append_assoc, List.append_assoc, List.append_assoc, List.append_assoc]
    exact List.take_left' l0
theorem full_ends (a b c d : Int) : (full a b c d).take 252 = hd a b c d ∧ (full a b c d).drop 252 = putS (Crc.sum (hd a b c d)) 4 := by
  unfold full
  rw [show U (Crc.sum (hd a b c d)) = Crc.sum (hd a b c d) from sum_u64 _]
  exact ⟨List.take_left' (hd_length a b c d), List.drop_left' (hd_length a b c d)⟩
theorem get_put (x : Int) (m : Nat) (h : 0 ≤ x ∧ x < 256 ^ m) (h8 : (256 : Int) ^ m ≤ 18446744073709551616) : getS (putS (U x) m) = x := by
  rw [show U x = x from u64_wrap h.1 (by omega), getS_putS, Int.emod_eq_of_lt h.1 h.2]
theorem RS_small {a b c d : Int} (h : RS a b c d = true) : (0 ≤ a ∧ a < 4611686018427387905) ∧ (0 ≤ b ∧ b < 65536) ∧ (0 ≤ c ∧ c < 65536) ∧ (0 ≤ d ∧ d < 65536) := by
  obtain ⟨h1, h2, h3⟩ := RS_iff.mp h
  have h4 := Geo.R_iff.mp h3
  omega
/-- What is put is got as it was. -/
theorem get_full {a b c d : Int} (h : RS a b c d = true) : getF (full a b c d) = (a, b, c, d, 0) := by
  obtain ⟨ha, hb, hc, hd⟩ := RS_small h
  obtain ⟨c1, c2, c3, c4, c5, c6⟩ := full_cut a b c d
  obtain ⟨e1, e2⟩ := full_ends a b c d
  have hs := Crc.sum_range (Super.hd a b c d)
  have g1 : cutG (full a b c d) 4 12 = a := by
    unfold cutG; rw [c1, get_put a 8 (by omega) (by decide)]
  have g2 : cutG (full a b c d) 12 14 = b := by
    unfold cutG; rw [c2, get_put b 2 (by omega) (by decide)]
  have g3 : cutG (full a b c d) 14 16 = c := by
    unfold cutG; rw [c3, get_put c 2 (by omega) (by decide)]
  have g4 : cutG (full a b c d) 16 18 = d := by
    unfold cutG; rw [c4, get_put d 2 (by omega) (by decide)]
  unfold getF
  rw [if_pos (full_length a b c d), c6, if_pos mark_str, e1, e2, getS_putS, Int.emod_eq_of_lt hs.1 (by omega), if_pos rfl, ← e1, c5, g1, g2, g3, g4, w64 (x := a) (by omega) (by omega), w64 (x := b) (by omega) (by omega), w64 (x := c) (by omega) (by omega), w64 (x := d) (by omega) (by omega), if_pos h, if_pos (by rw [zeroS_iff, List.length_replicate])]
theorem set_bytes {l : List Int} (h : isBytes l) (n : Nat) (c : Int) (hc : 0 ≤ c ∧ c < 256) : isBytes (l.set n c) := by
  intro x hx
  rcases List.mem_or_eq_of_mem_set hx with h1 | h1
  · exact h x h1
  · rw [h1]; exact hc
theorem set_ne {l : List Int} (n : Nat) (c : Int) (hn : n < l.length) (hne : l[n] ≠ c) : l.set n c ≠ l := by
  intro h
  have h2 := congrArg (fun q => q[n]?) h
  simp only [List.getElem?_set_self hn, List.getElem?_eq_getElem hn] at h2
  exact hne (Option.some.inj h2).symm
/-- A byte that is another one is told. -/
theorem turned (a b c d : Int) (n : Nat) (x : Int) (hn : n < 256) (hx : 0 ≤ x ∧ x < 256) (hne : (full a b c d)[n]'(by rw [full_length]; exact hn) ≠ x) :
    (getF ((full a b c d).set n x)).2.2.2.2 = 8 ∨ (getF ((full a b c d).set n x)).2.2.2.2 = 7 := by
  have hb := set_bytes (full_bytes a b c d) n x hx
  obtain ⟨c1, c2, c3, c4, c5, c6⟩ := full_cut a b c d
  obtain ⟨e1, e2⟩ := full_ends a b c d
  have hl := full_length a b c d
  unfold getF
  rw [if_pos (by rw [List.length_set]; exact hl)]
  by_cases hm : (strOfNums (((full a b c d).set n x).take 4)).toList = ([76, 86, 69, 69] : List UInt8)
  · rw [if_pos hm]
    refine Or.inr ?_
    have hm2 := (mark_iff (isBytes_take hb 4)).mp hm
    rw [if_neg]
    intro hs
    by_cases h4 : n < 4
    · have h5 : ((full a b c d).set n x).take 4 = ((full a b c d).take 4).set n x := List.take_set ..
      rw [h5, ← c6] at hm2
      refine set_ne n x (by rw [List.length_take]; omega) ?_ hm2
      rw [List.getElem_take]
      exact hne
    · by_cases h252 : n < 252
      · have h6 : ((full a b c d).set n x).drop 252 = (full a b c d).drop 252 := List.drop_set_of_lt h252
        have h7 : ((full a b c d).set n x).take 252 = ((full a b c d).take 252).set n x := List.take_set ..
        have hlen : n < ((full a b c d).take 252).length := by rw [List.length_take]; omega
        have hg : getS ((full a b c d).drop 252) = Crc.sum ((full a b c d).take 252) := by
          have hr := Crc.sum_range (hd a b c d)
          rw [e1, e2, getS_putS, Int.emod_eq_of_lt hr.1 (by omega)]
        rw [h6, h7, hg] at hs
        generalize hL : (full a b c d).take 252 = L at *
        have hy : L[n]'hlen = (full a b c d)[n]'(by rw [full_length]; exact hn) := by
          subst hL
          rw [List.getElem_take]
        have hsplit : L = L.take n ++ L[n] :: L.drop (n + 1) := by rw [← List.drop_eq_getElem_cons hlen, List.take_append_drop]
        have hset : L.set n x = L.take n ++ x :: L.drop (n + 1) := by rw [List.set_eq_take_append_cons_drop, if_pos hlen]
        have hLb : isBytes L := by rw [← hL]; exact isBytes_take (full_bytes a b c d) 252
        have hz := hLb L[n] (List.getElem_mem hlen)
        rw [hset] at hs
        refine Crc.sum_other (L.take n) (L.drop (n + 1)) L[n] x hz.1 hz.2 hx.1 hx.2 (by rw [hy]; exact hne) ?_
        rw [← hsplit]
        exact hs
      · have h7 : ((full a b c d).set n x).take 252 = (full a b c d).take 252 := List.take_set_of_le (by omega)
        have h6 : ((full a b c d).set n x).drop 252 = ((full a b c d).drop 252).set (n - 252) x := by
          rw [List.drop_set, if_neg (by omega)]
        have hg : getS ((full a b c d).drop 252) = Crc.sum ((full a b c d).take 252) := by
          have hr := Crc.sum_range (hd a b c d)
          rw [e1, e2, getS_putS, Int.emod_eq_of_lt hr.1 (by omega)]
        rw [h6, h7, ← hg] at hs
        have hb2 := drop_bytes (full_bytes a b c d) 252
        have p1 := putS_getS _ hb2
        have p2 := putS_getS _ (set_bytes hb2 (n - 252) x hx)
        rw [hs, List.length_set, p1] at p2
        refine set_ne (n - 252) x (by rw [List.length_drop]; omega) ?_ p2.symm
        rw [List.getElem_drop]
        have h8 : 252 + (n - 252) = n := by omega
        simp only [h8]
        exact hne
  · rw [if_neg hm]
    exact Or.inl rfl
def goodS (v : Int × Int × Int × Int × Int) (i a2 b0 : Int) : Bool := v.2.2.2.2 == 0 && Int.tmod v.1 2 == i && decide (Geo.sizeS v.2.1 v.2.2.1 v.2.2.2.1 ≤ a2) && decide (b0 < v.1)
theorem goodS_iff {v : Int × Int × Int × Int × Int} {i a2 b0 : Int} : goodS v i a2 b0 = true ↔ v.2.2.2.2 = 0 ∧ Int.tmod v.1 2 = i ∧ Geo.sizeS v.2.1 v.2.2.1 v.2.2.2.1 ≤ a2 ∧ b0 < v.1 := by
  simp [goodS, and_assoc]
def four (v : Int × Int × Int × Int × Int) : Int × Int × Int × Int := (v.1, v.2.1, v.2.2.1, v.2.2.2.1)
theorem chooseR_eq (k : Nat) (hk : 300 ≤ k) (l : List Int) (hb : isBytes l) (i a2 : Int) (b : Int × Int × Int × Int) : chooseR k l i a2 b = some (if goodS (getF l) i a2 b.1 = true then four (getF l) else b) := by
  unfold chooseR
  rw [sGet_eq k hk l hb, Option.bind_some]
  generalize getF l = v
  obtain ⟨k, rfl⟩ : ∃ m, k = m + 2 := ⟨k - 2, by omega⟩
  unfold super_Super_place.f four
  by_cases h1 : v.2.2.2.2 = 0
  · rw [if_pos h1, Option.bind_some]
    by_cases h2 : Int.tmod v.1 2 = i
    · rw [if_pos h2, Geo.Size_eq, Option.bind_some]
      by_cases h3 : Geo.sizeS v.2.1 v.2.2.1 v.2.2.2.1 ≤ a2
      · rw [if_pos h3]
        by_cases h4 : b.1 < v.1
        · rw [if_pos h4, if_pos (goodS_iff.mpr ⟨h1, h2, h3, h4⟩)]
        · rw [if_neg h4, if_neg (fun h => h4 (goodS_iff.mp h).2.2.2)]
      · rw [if_neg h3, if_neg (fun h => h3 (goodS_iff.mp h).2.2.1)]
    · rw [if_neg h2, if_neg (fun h => h2 (goodS_iff.mp h).2.1)]
  · rw [if_neg h1, if_neg (fun h => h1 (goodS_iff.mp h).1)]
/-- The one of two that holds. -/
def chooseS (u v : Int × Int × Int × Int × Int) (a2 : Int) : Int × Int × Int × Int × Int × Int :=
  if goodS u 0 a2 0 = true then
    if goodS v 1 a2 u.1 = true then (v.1, v.2.1, v.2.2.1, v.2.2.2.1, 1, 0) else (u.1, u.2.1, u.2.2.1, u.2.2.2.1, 0, 0)
  else if goodS v 1 a2 0 = true then (v.1, v.2.1, v.2.2.1, v.2.2.2.1, 1, 0) else (0, 0, 0, 0, 0, 10)
theorem end_good {v : Int × Int × Int × Int × Int} {i : Int} (h0 : 0 < v.1) (hi : Int.tmod v.1 2 = i) : chooseEnd (four v) = some (v.1, v.2.1, v.2.2.1, v.2.2.2.1, i, 0) := by
  unfold chooseEnd four super_Super_place.f
  have h1 : (v.1 == 0) = false := by rw [beq_eq_false_iff_ne]; omega
  dsimp only
  rw [h1, Bool.false_and, if_neg (by decide), Option.bind_some, hi]
theorem sChoose_eq (k : Nat) (hk : 300 ≤ k) (l m : List Int) (hl : isBytes l) (hm : isBytes m) (a2 : Int) : super_Choose.f k l m a2 = some (chooseS (getF l) (getF m) a2) := by
  unfold super_Choose.f chooseS
  show ((chooseR k l 0 a2 (0, 0, 0, 0)).bind fun b => (chooseR k m 1 a2 b).bind fun b => chooseEnd b) = _
  rw [chooseR_eq k hk l hl, Option.bind_some, chooseR_eq k hk m hm, Option.bind_some]
  generalize getF l = u
  generalize getF m = v
  by_cases h1 : goodS u 0 a2 0 = true
  · have g1 := goodS_iff.mp h1
    rw [if_pos h1, if_pos h1]
    by_cases h2 : goodS v 1 a2 u.1 = true
    · have g2 := goodS_iff.mp h2
      rw [if_pos h2, if_pos (show goodS v 1 a2 (four u).1 = true from h2), end_good (by have := g1.2.2.2; have := g2.2.2.2; omega) g2.2.1]
    · rw [if_neg h2, if_neg (show ¬ goodS v 1 a2 (four u).1 = true from h2), end_good g1.2.2.2 g1.2.1]
  · rw [if_neg h1, if_neg h1]
    by_cases h2 : goodS v 1 a2 0 = true
    · have g2 := goodS_iff.mp h2
      rw [if_pos h2, if_pos h2, end_good g2.2.2.2 g2.2.1]
    · rw [if_neg h2, if_neg h2]
      rfl
/-- The one behind it. -/
def nextS (a b c d e f g : Int) : Int × Int × Int × Int × Int × Int :=
  if RS a b c d = true ∧ a ≠ 4611686018427387904 ∧ Geo.R e f g = true then (a + 1, e, f, g, Int.tmod (a + 1) 2, 0) else (0, 0, 0, 0, 0, 1)
theorem sNext_eq (k : Nat) (hk : 2 ≤ k) (a b c d e f g : Int) : super_Next.f k a b c d e f g = some (nextS a b c d e f g) := by
  unfold super_Next.f nextS super_Super_place.f
  rw [sRight_eq k hk, Option.bind_some]
  obtain ⟨k, rfl⟩ : ∃ m, k = m + 2 := ⟨k - 2, by omega⟩
  by_cases h1 : RS a b c d = true
  · have hs := RS_iff.mp h1
    rw [if_pos h1, w64 (by omega) (by omega)]
    by_cases h2 : a = 4611686018427387904
    · rw [if_pos h2, if_neg (fun h => h.2.1 h2)]
    · rw [if_neg h2, Geo.Right_eq, Option.bind_some]
      by_cases h3 : Geo.R e f g = true
      · rw [if_pos h3, if_pos ⟨h1, h2, h3⟩, Option.bind_some]
      · rw [if_neg h3, if_neg (fun h => h3 h.2.2)]
  · rw [if_neg h1, if_neg (fun h => h1 h.1)]
theorem rs2 : RS 2 16 8 2 = true := by decide
theorem rs3 : RS 3 16 8 2 = true := by decide
theorem byte20 (a b c d : Int) : (full a b c d)[20]? = some 0 := by
  obtain ⟨c1, c2, c3, c4, c5, c6⟩ := full_cut a b c d
  have h := congrArg (fun q => q[2]?) c5
  simp only [List.getElem?_drop, List.getElem?_take] at h
  rw [if_pos (by decide)] at h
  rw [h]
  rfl
theorem known_eq (k : Nat) (hk : 400 ≤ k) : leveelaw04_known.f k = some true := by
  have hl := full_length 3 16 8 2
  have hs : Geo.sizeS 16 8 2 = 34 := by decide
  have g2 : goodS (2, 16, 8, 2, 0) 0 34 0 = true := by rw [goodS_iff]; exact ⟨rfl, by decide, by dsimp only; omega, by decide⟩
  have g3 : goodS (3, 16, 8, 2, 0) 1 34 2 = true := by rw [goodS_iff]; exact ⟨rfl, by decide, by dsimp only; omega, by decide⟩
  have hn : nextS 2 16 8 2 16 8 2 = (3, 16, 8, 2, 1, 0) := by
    unfold nextS
    rw [if_pos ⟨rs2, by decide, by decide⟩]
    rfl
  have h20 : (full 3 16 8 2)[20]'(by rw [hl]; decide) ≠ 1 := by
    have h := byte20 3 16 8 2
    rw [List.getElem?_eq_getElem (by rw [hl]; decide)] at h
    rw [Option.some.inj h]
    decide
  have ht := turned 3 16 8 2 20 1 (by decide) (by decide) h20
  have hb := set_bytes (full_bytes 3 16 8 2) 20 1 (by decide)
  have g4 : ¬ goodS (getF ((full 3 16 8 2).set 20 1)) 1 34 2 = true := by
    rw [goodS_iff]
    intro h
    rw [h.1] at ht
    rcases ht with h | h <;> exact absurd h (by decide)
  unfold leveelaw04_known.f
  rw [sNext_eq k (by omega), hn, Option.bind_some, sPut_eq k (by omega), if_pos rs2, Option.bind_some]
  dsimp only
  rw [sPut_eq k (by omega), if_pos rs3, Option.bind_some]
  dsimp only
  rw [sChoose_eq k (by omega) _ _ (full_bytes 2 16 8 2) (full_bytes 3 16 8 2), get_full rs2, get_full rs3, Option.bind_some, if_pos rfl, hl, if_pos (by decide), if_pos (by decide), show (20 : Int).toNat = 20 from rfl, sChoose_eq k (by omega) _ _ (full_bytes 2 16 8 2) hb, get_full rs2, Option.bind_some]
  unfold chooseS
  rw [if_pos g2, if_pos g3, if_pos g2, if_neg g4]
  rfl
end Go.Proofs.Ytjblkjknkemkdaa.Super
