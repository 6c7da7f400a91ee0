/-
The plain law of ImageTurned: one bit of a packed disk turned is always told.
Conditions: none.
-/
import Derived.Test.YtnlneiiccoakjaaHandImgUnpack
import Derived.Test.YtnlneiiccoakjaaHandImgPack
import Derived.Test.YtnlneiiccoakjaaPx7
namespace Go.Proofs.Ytnlneiiccoakjaa.Pure
open Go.RowKit Go.Proofs.YtnlneiiccoakjaaW.PrintWords Go.Proofs.YtnlneiiccoakjaaW.PrintLast Go.Proofs.YtnlneiiccoakjaaW.PrintMore Go.Proofs.Ytnlneiiccoakjaa.P Go.Proofs.Ytnlneiiccoakjaa.Num Go.Proofs.Ytnlneiiccoakjaa.Plain
theorem putV_bytes (n : Int) (m : Nat) : isBytes (putV n m) := putS_bytes n m
theorem stepR_bytes {l : List S41} {k : Int} {x : List Int} (hl : ∀ y ∈ l, isBytes y.f2) (hx : isBytes x) : ∀ y ∈ stepR l k x, isBytes y.f2 := by
  have hx' : isBytes (if k = 1 then x else []) := by
    split
    · exact hx
    · intro z hz; cases hz
  rcases snoc_cases l with h | ⟨xs, z, h⟩
  · subst h
    rw [stepR_nil]
    intro y hy
    rw [List.mem_singleton] at hy
    subst hy
    exact hx'
  · subst h
    rw [stepR_snoc]
    split
    · intro y hy
      rcases List.mem_append.mp hy with hy | hy
      · exact hl y (List.mem_append_left _ hy)
      · rw [List.mem_singleton] at hy
        subst hy
        intro v hv
        rcases List.mem_append.mp hv with hv | hv
        · exact hl z (by simp) v hv
        · exact hx' v hv
    · intro y hy
      rcases List.mem_append.mp hy with hy | hy
      · exact hl y hy
      · rw [List.mem_singleton] at hy
        subst hy
        exact hx'
theorem rowsN_bytes {b : List Int} (h : isBytes b) : ∀ i, ∀ y ∈ rowsN b i, isBytes y.f2
  | 0 => fun y hy => absurd hy (by simp [rowsN])
  | i + 1 => stepR_bytes (rowsN_bytes h i) (chunk_bytes h i)
theorem flat_len (m : Nat) : ∀ l : List S41, (∀ y ∈ l, y.f2.length ≤ m) → ((l.map rowBytes).flatten).length ≤ (3 + m) * l.length
  | [], _ => by simp
  | y :: l, h => by
    have ih := flat_len m l fun z hz => h z (List.mem_cons_of_mem _ hz)
    have hy := h y (by simp)
    rw [List.map_cons, List.flatten_cons, List.length_append, List.length_cons, Nat.mul_add]
    have : (rowBytes y).length = 3 + y.f2.length := by
      unfold rowBytes
      simp only [List.length_append, putV_length, List.length_singleton]
    omega
theorem packHead_len (b : List Int) : (packHead b).length = 6 := by
  unfold packHead
  rw [List.length_append, putV_length]
  rfl
theorem flat_bytes {l : List S41} (h : ∀ y ∈ l, isBytes y.f2) : isBytes (l.map rowBytes).flatten := by
  intro x hx
  rw [List.mem_flatten] at hx
  obtain ⟨r, hr, hx⟩ := hx
  obtain ⟨y, hy, rfl⟩ := List.mem_map.mp hr
  unfold rowBytes at hx
  rcases List.mem_append.mp hx with hx | hx
  · rcases List.mem_append.mp hx with hx | hx
    · rw [List.mem_singleton] at hx
      omega
    · exact putV_bytes _ _ x hx
  · exact h y hy x hx
theorem body_ok {b : List Int} (hb : isBytes b) (hd : diskB b = true) : isBytes (packBody b (rowsP b).1) ∧ (packBody b (rowsP b).1).take 4 = markL ∧ 6 ≤ (packBody b (rowsP b).1).length ∧ (packBody b (rowsP b).1).length ≤ 4294979590 := by
  have hd' : b.length ≠ 0 ∧ b.length % 256 = 0 ∧ b.length ≤ 1048576 := of_decide_eq_true hd
  have e : (rowsP b).1 = rowsN b (b.length / 256) := by unfold rowsP; rw [if_pos hd]
  rw [e]
  have hok := rowsN_ok b (b.length / 256)
  have hfl := flat_len 1048576 (rowsN b (b.length / 256)) fun y hy => by have := (hok.2 y hy).2.2; omega
  have hl : (packBody b (rowsN b (b.length / 256))).length = 6 + (((rowsN b (b.length / 256)).map rowBytes).flatten).length := by
    unfold packBody
    rw [List.length_append, packHead_len]
  refine ⟨?_, ?_, by omega, ?_⟩
  · intro x hx
    unfold packBody packHead at hx
    rcases List.mem_append.mp hx with hx | hx
    · rcases List.mem_append.mp hx with hx | hx
      · simp [markL] at hx; omega
      · exact putV_bytes _ _ x hx
    · exact flat_bytes (rowsN_bytes hb _) x hx
  · unfold packBody packHead
    rw [List.append_assoc]
    exact List.take_left' rfl
  · have h1 : (rowsN b (b.length / 256)).length ≤ 4096 := by have := hok.1; omega
    have h2 := Nat.mul_le_mul_left (3 + 1048576) h1
    omega
theorem turn_any (B : List Int) (s : Int) (hs : s = Crc.sum B) (hB : isBytes B) (h6 : 6 ≤ B.length) (hm : B.take 4 = markL) (j : Nat) (c : Int) (hc : 0 ≤ c ∧ c < 256) (hj : j < (B ++ putV s 4).length) (hne : c ≠ (B ++ putV s 4)[j]) :
    (unpackP ((B ++ putV s 4).set j c)).2 = 7 ∨ (j < 4 ∧ (unpackP ((B ++ putV s 4).set j c)).2 = 8) := by
  have hl : (B ++ putV s 4).length = B.length + 4 := by rw [List.length_append, putV_length]
  have hr := Crc.sum_range B
  rw [← hs] at hr
  obtain ⟨q, hq⟩ : ∃ q, q = (B ++ putV s 4).set j c := ⟨_, rfl⟩
  have hql : q.length = B.length + 4 := by rw [hq, List.length_set, hl]
  rw [← hq]
  unfold unpackP
  rw [if_neg (by rw [hql]; omega)]
  by_cases h4 : q.take 4 = markL
  · rw [if_neg (fun h => h h4)]
    left
    rw [if_pos]
    rw [hql, Nat.add_sub_cancel]
    by_cases hjB : j < B.length
    · have e : q = B.set j c ++ putV s 4 := by rw [hq, List.set_append_left _ _ hjB]
      rw [e, List.take_left' (by rw [List.length_set]), List.drop_left' (by rw [List.length_set])]
      intro h
      have e2 : getS (putV s 4) = s := (getS_putS s 4).trans (Int.emod_eq_of_lt hr.1 hr.2)
      rw [e2, hs] at h
      have hsplit : B = B.take j ++ B[j] :: B.drop (j + 1) := by
        rw [← List.drop_eq_getElem_cons hjB, List.take_append_drop]
      have hset : B.set j c = B.take j ++ c :: B.drop (j + 1) := by
        rw [List.set_eq_take_append_cons_drop, if_pos hjB]
      rw [hset] at h
      have hx := hB B[j] (List.getElem_mem hjB)
      rw [List.getElem_append_left hjB] at hne
      refine Crc.sum_other (B.take j) (B.drop (j + 1)) B[j] c hx.1 hx.2 hc.1 hc.2 (fun h => hne h.symm) ?_
      rw [← hsplit]
      exact h
    · have hj2 : j - B.length < (putV s 4).length := by rw [putV_length]; omega
      have e : q = B ++ (putV s 4).set (j - B.length) c := by rw [hq, List.set_append_right _ _ (by omega)]
      rw [e, List.take_left' rfl, List.drop_left' rfl, ← hs]
      intro h
      rw [List.getElem_append_right (by omega)] at hne
      have hby : isBytes ((putV s 4).set (j - B.length) c) := by
        intro x hx
        rcases List.mem_or_eq_of_mem_set hx with hx | hx
        · exact putV_bytes _ _ x hx
        · rw [hx]; exact hc
      have h2 := putS_getS _ hby
      rw [h, List.length_set, putV_length] at h2
      have h3 : ((putV s 4).set (j - B.length) c)[j - B.length]? = (putV s 4)[j - B.length]? := by rw [← h2]; rfl
      rw [List.getElem?_set_self hj2, List.getElem?_eq_getElem hj2] at h3
      exact hne (Option.some.inj h3)
  · rw [if_pos h4]
    refine .inr ⟨?_, rfl⟩
    by_cases hj4 : j < 4
    · exact hj4
    · exfalso
      apply h4
      rw [hq, List.take_set, List.set_eq_of_length_le (by rw [List.length_take]; omega), List.take_append_of_le_length (by omega), hm]
theorem ImageTurned : leveelaw32_ImageTurned.Pure := by
  intro l a _ _ hw _
  have hb := isBytes_of_wf hw
  unfold leveelaw32_ImageTurned.f
  by_cases h0 : (l.length : Int) > 40000
  · rw [if_pos h0]; rfl
  rw [if_neg h0]
  have hpk : image_Pack.f l = some (packP l) := by unfold image_Pack.f; rw [if_pos (bytesB_iff.mpr hb)]
  rw [hpk, Option.bind_some]
  by_cases hd : diskB l = true
  case neg =>
    have e : packP l = ([], 1) := by unfold packP; rw [if_neg hd]
    rw [e]
    rfl
  obtain ⟨hB, hm, h6, hmx⟩ := body_ok hb hd
  have e : packP l = (packBody l (rowsP l).1 ++ putV (Crc.sum (packBody l (rowsP l).1)) 4, 0) := by unfold packP; rw [if_pos hd]
  rw [e]
  generalize packBody l (rowsP l).1 = B at hB hm h6 hmx
  obtain ⟨s, hs⟩ : ∃ s, s = Crc.sum B := ⟨_, rfl⟩
  rw [← hs]
  have hl : (B ++ putV s 4).length = B.length + 4 := by rw [List.length_append, putV_length]
  have hpb : isBytes (B ++ putV s 4) := fun x hx => by
    rcases List.mem_append.mp hx with hx | hx
    · exact hB x hx
    · exact putV_bytes _ _ x hx
  have ht := turn_any B s hs hB h6 hm
  generalize B ++ putV s 4 = p at hl hpb ht
  rw [if_pos rfl]
  show (if (p.length : Int) < 10 then _ else _) = _
  rw [if_neg (by omega)]
  show ((leveeref01_Count.f a (wrap64 (8 * (p.length : Int)))).bind _) = _
  rw [w64 (x := 8 * (p.length : Int)) (by omega) (by omega)]
  obtain ⟨r, hr, hr0, hr1⟩ := Count_eq a (8 * (p.length : Int)) (by omega) (by omega)
  rw [hr, Option.bind_some]
  obtain ⟨n, rfl⟩ := Int.eq_ofNat_of_zero_le hr0
  have e1 : wrap64 (Int.tdiv (n : Int) 8) = ((n / 8 : Nat) : Int) := by
    rw [Int.tdiv_eq_ediv_of_nonneg (by omega), w64 (by omega) (by omega)]; omega
  have e2 : Int.tmod (n : Int) 8 = ((n % 8 : Nat) : Int) := by
    rw [Int.tmod_eq_emod_of_nonneg (by omega)]; omega
  have hi : n / 8 < p.length := by omega
  dsimp only
  rw [e1, e2, if_pos (by omega), if_pos (by omega), if_pos (by rw [u64_wrap (by omega) (by omega)]; omega), rd_eq p _ hi]
  have hx := hpb p[n / 8] (List.getElem_mem hi)
  have hf := flip p[n / 8] (n % 8) hx (by omega)
  generalize Go.bits .xor .u8 p[n / 8] (shl .u8 1 (IntKind.u64.wrap ((n % 8 : Nat) : Int))) = c at *
  rw [Int.toNat_natCast]
  have hub : bytesB (p.set (n / 8) c) = true := bytesB_iff.mpr fun x hx => by
    rcases List.mem_or_eq_of_mem_set hx with hx | hx
    · exact hpb x hx
    · rw [hx]; exact ⟨hf.1, hf.2.1⟩
  have hu : image_Unpack.f (p.set (n / 8) c) = some (unpackP (p.set (n / 8) c)) := by
    unfold image_Unpack.f
    rw [if_pos ⟨hub, by rw [List.length_set]; omega⟩]
  rw [hu, Option.bind_some]
  rcases ht (n / 8) c ⟨hf.1, hf.2.1⟩ hi hf.2.2 with h7 | ⟨h4, h8⟩
  · rw [if_pos h7]; rfl
  · rw [if_neg (by rw [h8]; decide), if_pos (by omega), if_pos h8]; rfl
end Go.Proofs.Ytnlneiiccoakjaa.Pure
