/-
The calls of the law ImageRows, each told for the values that the law hands over.
Conditions: none.
-/
import Derived.Test.YtnlneiiccoakjaaHandImgSpoil
import Derived.Test.YtnlneiiccoakjaaHandImgKnown
import Derived.Test.YtnlneiiccoakjaaImgBack
import Derived.Test.YtnlneiiccoakjaaImgRefBlocks
import Derived.Test.YtnlneiiccoakjaaPx3
import Derived.Test.YtnlneiiccoakjaaPx6
namespace Go.Proofs.Ytnlneiiccoakjaa.P
open Go.RowKit Go.Proofs.YtnlneiiccoakjaaW.PrintWords Go.Proofs.YtnlneiiccoakjaaW.PrintLast Go.Proofs.YtnlneiiccoakjaaW.PrintMore
attribute [local go_sem] max2_int min2_int max_two min_two max_three min_three max_four min_four
set_option linter.unusedVariables false
set_option linter.unusedSimpArgs false
open Go.Proofs.Ytnlneiiccoakjaa.Num Go.Proofs.Ytnlneiiccoakjaa.Plain
theorem taken_loop (l : List S41) (hl : l.length ≤ 1048576) : ∀ (d i k : Nat), i + d = l.length → d < k →
    leveelaw32_taken.l0 k l ((l.take i).map strR) (i : Int) = some (l.map strR)
  | 0, i, k, hi, hk => by
    obtain ⟨k, rfl⟩ : ∃ j, k = j + 1 := ⟨k - 1, by omega⟩
    unfold leveelaw32_taken.l0
    rw [if_neg (by omega), List.take_of_length_le (by omega)]
  | d + 1, i, k, hi, hk => by
    obtain ⟨k, rfl⟩ : ∃ j, k = j + 1 := ⟨k - 1, by omega⟩
    have h1 : i < l.length := by omega
    have e : rd_T41 l (i : Int) = l[i] := by simp [rd_T41, h1]
    have ht : (l.take i).map strR ++ [(⟨l[i].f0, l[i].f1, strOfNums l[i].f2⟩ : S54)] = (l.take (i + 1)).map strR := by
      rw [List.take_succ_eq_append_getElem h1, List.map_append]
      rfl
    unfold leveelaw32_taken.l0
    rw [if_pos (by omega), if_pos (by omega), if_pos (by rw [List.length_map, List.length_take]; omega), e, ht, w64 (x := (i : Int) + 1) (by omega) (by omega), show (i : Int) + 1 = ((i + 1 : Nat) : Int) from by omega]
    exact taken_loop l hl d (i + 1) k (by omega) (by omega)
theorem taken_eq (l : List S41) (hl : l.length ≤ 1048576) (k : Nat) (hk : l.length < k) : leveelaw32_taken.f k l = some (l.map strR) := by
  unfold leveelaw32_taken.f
  exact taken_loop l hl l.length 0 k (by omega) hk
theorem str_bytesOf (b : ByteArray) : strOfNums (bytesOf b) = b := by
  unfold strOfNums bytesOf
  rw [List.map_map]
  have : ((fun n : Int => UInt8.ofNat n.toNat) ∘ fun b : UInt8 => (b.toNat : Int)) = id := by
    funext x
    simp
  rw [this, List.map_id]
theorem bytesOf_is (b : ByteArray) : isBytes (bytesOf b) := by
  intro x hx
  unfold bytesOf at hx
  obtain ⟨u, _, rfl⟩ := List.mem_map.mp hx
  have := u.toNat_lt
  omega
theorem strR_giveP (x : S54) : strR (giveP x) = x := by
  unfold strR giveP
  rw [str_bytesOf]
theorem strR_give (l : List S54) : (l.map giveP).map strR = l := by
  rw [List.map_map]
  have : strR ∘ giveP = id := by funext x; exact strR_giveP x
  rw [this, List.map_id]
theorem tq_lt {d : Kd Int} {e : Nat} {w : World} {base : Nat} {ok : Nat → Prop} {v : Value} {xs : List Int} (h : TQ.Q d e w base ok v xs) : TQ.Q d e w base (fun k => k < w.heap.size) v xs :=
  ⟨Kd.R_mono (Kd.R_bound h.1) (fun _ hk => hk.2.2.1), Kd.R_mono (Kd.R_bound h.2) (fun _ hk => hk.2.2.1)⟩
abbrev OwnQ (w : World) (base hi : Nat) (A : Option Addr) (n c : Nat) (l : List Int) : Prop := TQ.Q (Kd.int .u8) 5 w base (fun k => k < hi) (.slice A n c) l
abbrev RowsX (w : World) (lo hi : Nat) (A : Option Addr) (n c : Nat) (l : List S41) : Prop := Kd.R k41 41 w lo (fun k => k < hi) (.slice A n c) l
section
variable {w w1 : World}
theorem u_lent {A0 : Option Addr} {c0 : Nat} {b : List Int} (hr : (Kd.int .u8).C w A0 b.length b) (hc : b.length ≤ c0) (hs : b.length ≤ 40000) :
    Calls Try.prog 8 #[.slice A0 b.length c0] w fun e w' => ∃ A c, e = .returned (.slice A b.length c) ∧ OwnQ w' w.heap.size w'.heap.size A b.length c b ∧ Below w.heap.size w w' := by
  refine (leveeref01_Lent.calls A0 c0 b b w hr hc (if_pos (by omega))).mono ?_
  rintro e w' ⟨v, rfl, hQ, hb⟩
  obtain ⟨A, c, rfl, _⟩ := TQ.Q_slice hQ
  exact ⟨A, c, rfl, tq_lt hQ, hb⟩
theorem u_rows {A : Option Addr} {c so s1 : Nat} {b : List Int} {L : List S41} {e : Int} (hQ : OwnQ w so s1 A b.length c b) (hb : isBytes b) (h : rowsP b = (L, e)) :
    Calls Try.prog 9 #[.slice A b.length c] w fun r w' => ∃ A2 c2 lo hi, r = .returned (.tuple #[.slice A2 L.length c2, .int .i64 e]) ∧ OwnQ w' so lo A b.length c b ∧ RowsX w' lo hi A2 L.length c2 L ∧ w.heap.size ≤ lo ∧ hi ≤ w'.heap.size ∧ lo ≤ hi ∧ Below w.heap.size w w' := by
  obtain ⟨_, hl, hC⟩ := TQ.Q_reads' hQ
  refine (image_Rows.calls A c b L e w hC hl (by unfold image_Rows.f; rw [if_pos (bytesB_iff.mpr hb), h])).mono ?_
  rintro r w' ⟨v, rfl, hR, hbl⟩
  obtain ⟨A2, c2, rfl, _, _⟩ := Kd.R_reads hR
  exact ⟨A2, c2, w.heap.size, w'.heap.size, rfl, TQ.Q_below (tq_lt hQ) hbl, Kd.R_mono (Kd.R_bound hR) (fun _ hk => hk.2.2.1), Nat.le_refl _, Nat.le_refl _, hbl.size, hbl⟩
theorem u_rrows {A0 : Option Addr} {c0 : Nat} {b : List Int} {L : List S41} {e : Int} (hr : (Kd.int .u8).C w A0 b.length b) (hc : b.length ≤ c0) (hb : isBytes b) (hs : b.length ≤ 40000) (h : rowsP b = (L, e)) :
    Calls Try.prog 10 #[.slice A0 b.length c0] w fun r w' => ∃ A2 c2, r = .returned (.tuple #[.slice A2 L.length c2, .int .i64 e]) ∧ L.length ≤ c2 ∧ Kd.C k54 w' A2 L.length (L.map strR) ∧ Below w.heap.size w w' := by
  have hf := refRows_eq b hb (by omega) 12289 (Nat.le_refl _)
  unfold refRowsP at hf
  rw [h] at hf
  refine (leveeref32_Rows.calls 12289 A0 c0 b (L.map strR) e w hr hc hf).mono ?_
  rintro r w' ⟨v, rfl, hR, hbl⟩
  obtain ⟨A2, c2, rfl, hl, hC⟩ := Kd.R_reads hR
  rw [List.length_map] at hl hC ⊢
  exact ⟨A2, c2, rfl, hl, hC, hbl⟩
theorem u_taken {A : Option Addr} {c lo hi : Nat} {L : List S41} (hR : RowsX w lo hi A L.length c L) (hs : L.length ≤ 1048576) :
    Calls Try.prog 12 #[.slice A L.length c] w fun r w' => ∃ A2 c2, r = .returned (.slice A2 L.length c2) ∧ L.length ≤ c2 ∧ Kd.C k54 w' A2 L.length (L.map strR) ∧ Below w.heap.size w w' := by
  obtain ⟨_, hl, hC⟩ := Kd.R_reads' hR
  refine (leveelaw32_taken.calls (L.length + 1) A c L (L.map strR) w hC hl (taken_eq L hs _ (by omega))).mono ?_
  rintro r w' ⟨v, rfl, hR2, hbl⟩
  obtain ⟨A2, c2, rfl, hl2, hC2⟩ := Kd.R_reads hR2
  rw [List.length_map] at hl2 hC2 ⊢
  exact ⟨A2, c2, rfl, hl2, hC2, hbl⟩
theorem u_same {A A2 : Option Addr} {c c2 : Nat} {L : List S41} (h1 : Kd.C k54 w A L.length (L.map strR)) (l1 : L.length ≤ c) (h2 : Kd.C k54 w A2 L.length (L.map strR)) (l2 : L.length ≤ c2) (hb : ∀ y ∈ L, isBytes y.f2) (hs : L.length ≤ 1048576) :
    Calls Try.prog 11 #[.slice A L.length c, .slice A2 L.length c2] w fun r w' => r = .returned (.bool true) ∧ Below w.heap.size w w' := by
  have hm : (L.map strR).length = L.length := List.length_map ..
  have hf := sameRows_eq L L hb hb (by omega) (L.length + 1) (by omega)
  rw [sameL_iff.mpr rfl] at hf
  have hc := leveeref32_SameRows.calls (L.length + 1) A c (L.map strR) A2 c2 (L.map strR) true w (by rw [hm]; exact h1) (by rw [hm]; exact l1) (by rw [hm]; exact h2) (by rw [hm]; exact l2) hf
  rw [hm] at hc
  refine hc.mono ?_
  rintro r w' ⟨rfl, ⟨nd, rfl⟩⟩
  exact ⟨rfl, pw_below_drewN (Below.refl _ _) nd⟩
theorem u_kept {A A0 : Option Addr} {c c0 so s1 : Nat} {b : List Int} (hQ : OwnQ w so s1 A b.length c b) (hr : (Kd.int .u8).C w A0 b.length b) (hc : b.length ≤ c0) (hs : b.length ≤ 40000) :
    Calls Try.prog 13 #[.slice A b.length c, .slice A0 b.length c0] w fun r w' => r = .returned (.bool true) ∧ Below w.heap.size w w' := by
  obtain ⟨_, hl, hC⟩ := TQ.Q_reads' hQ
  exact leveeref01_Kept.calls A c b A0 c0 b true w hC hl hr hc ⟨_, _, hQ⟩ (if_pos ⟨by omega, rfl⟩)
theorem u_given {A1 : Option Addr} {c1 : Nat} {l : List S54} (hr : Kd.C k54 w A1 l.length l) (hc : l.length ≤ c1) (hs : l.length ≤ 60) (hz : ∀ y ∈ l, y.f2.size ≤ 140737488355328) :
    Calls Try.prog 15 #[.slice A1 l.length c1] w fun r w' => ∃ A c, r = .returned (.slice A l.length c) ∧ l.length ≤ c ∧ Kd.C k41 w' A l.length (l.map giveP) ∧ Below w.heap.size w w' := by
  have hc := leveelaw32_given.calls A1 c1 l (l.map giveP) w hr hc (if_pos ⟨hs, List.all_eq_true.mpr fun x hx => decide_eq_true (hz x hx)⟩)
  rw [List.length_map] at hc
  exact hc
theorem u_blocks {A : Option Addr} {n c : Nat} {L : List S41} {p : List Int} {e : Int} (hn : L.length = n) (hr : Kd.C k41 w A n L) (hc : n ≤ c) (hb : ∀ y ∈ L, isBytes y.f2) (h : blocksP L = (p, e)) :
    Calls Try.prog 14 #[.slice A n c] w fun r w' => ∃ A2 c2, r = .returned (.tuple #[.slice A2 p.length c2, .int .i64 e]) ∧ Kd.R (Kd.int .u8) 5 w' w.heap.size (fun _ => True) (.slice A2 p.length c2) p ∧ Below w.heap.size w w' := by
  subst hn
  refine (image_Blocks.calls A c L p e w hr hc (by unfold image_Blocks.f; rw [if_pos (show rowsB L = true from List.all_eq_true.mpr fun y hy => bytesB_iff.mpr (hb y hy)), h])).mono ?_
  rintro r w' ⟨v, rfl, hR, hbl⟩
  obtain ⟨A2, c2, rfl, _, _⟩ := Kd.R_reads hR
  exact ⟨A2, c2, rfl, hR, hbl⟩
theorem u_rblocks {A1 : Option Addr} {c1 : Nat} {l : List S54} {p : List Int} {e : Int} (hr : Kd.C k54 w A1 l.length l) (hc : l.length ≤ c1) (hs : l.length ≤ 60) (h : blocksP (l.map giveP) = (p, e)) :
    Calls Try.prog 16 #[.slice A1 l.length c1] w fun r w' => ∃ A2 c2, r = .returned (.tuple #[.slice A2 p.length c2, .int .i64 e]) ∧ Kd.R (Kd.int .u8) 5 w' w.heap.size (fun _ => True) (.slice A2 p.length c2) p ∧ Below w.heap.size w w' := by
  have hm : (l.map giveP).length = l.length := List.length_map ..
  have hf := refBlocks_eq (l.map giveP) (fun y hy => by obtain ⟨x, _, rfl⟩ := List.mem_map.mp hy; exact bytesOf_is _) (by omega) 400000 (by omega)
  rw [strR_give, h] at hf
  refine (leveeref32_Blocks.calls 400000 A1 c1 l p e w hr hc hf).mono ?_
  rintro r w' ⟨v, rfl, hR, hbl⟩
  obtain ⟨A2, c2, rfl, _, _⟩ := Kd.R_reads hR
  exact ⟨A2, c2, rfl, hR, hbl⟩
end
end Go.Proofs.Ytnlneiiccoakjaa.P
