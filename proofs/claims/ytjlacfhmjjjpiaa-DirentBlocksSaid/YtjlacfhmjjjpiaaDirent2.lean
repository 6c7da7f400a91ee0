/-
Plain laws on blocks of entries: Lay, List, Find and Room of dirent and of the reference, as one function each; the known block.
Conditions: none.
-/
import Derived.Test.YtjlacfhmjjjpiaaDirent
import Derived.Test.YtjlacfhmjjjpiaaHandDirent3
import Derived.Test.YtjlacfhmjjjpiaaPx7
import Derived.Test.YtjlacfhmjjjpiaaPx7
import Derived.Test.YtjlacfhmjjjpiaaPx7
import Derived.Test.YtjlacfhmjjjpiaaPx8
import Derived.Test.YtjlacfhmjjjpiaaPx8
import Derived.Test.YtjlacfhmjjjpiaaPx9
import Derived.Test.YtjlacfhmjjjpiaaPx9
import Derived.Test.YtjlacfhmjjjpiaaPx9
import Derived.Test.YtjlacfhmjjjpiaaPx10
namespace Go.Proofs.Ytjlacfhmjjjpiaa.Dirent
open Go.RowKit Go.Proofs.YtjlacfhmjjjpiaaW.PrintWords Go.Proofs.YtjlacfhmjjjpiaaW.PrintLast Go.Proofs.YtjlacfhmjjjpiaaW.PrintMore Go.Proofs.Ytjlacfhmjjjpiaa.P Go.Proofs.Ytjlacfhmjjjpiaa.Num Go.Proofs.Ytjlacfhmjjjpiaa.Plain
/-- A block with an entry laid into it. -/
def layB (l : List Int) (p a : Int) (b : Bool) (s : ByteArray) : List Int := l.take (p * 32).toNat ++ (bytesE a b s ++ l.drop ((p * 32).toNat + 32))
def layS (l : List Int) (p a : Int) (b : Bool) (s : ByteArray) : List Int × Int :=
  if l.length = 256 then (if 0 ≤ p ∧ p < 8 then (if rightS a b s = true then (layB l p a b s, 0) else ([], 1)) else ([], 3)) else ([], 4)
theorem dLay_eq (k : Nat) (l : List Int) (p a : Int) (b : Bool) (s : ByteArray) : dirent_Lay.f k l p a b s = some (layS l p a b s) := by
  unfold dirent_Lay.f layS
  by_cases hl : l.length = 256
  · rw [if_pos hl, if_pos hl]
    by_cases hp : 0 ≤ p ∧ p < 8
    · rw [if_pos hp, if_pos hp, dPut_eq, Option.bind_some]
      by_cases hr : rightS a b s = true
      · have hE := bytesE_length a b s (by have := (right_small hr).1; omega)
        rw [if_pos hr, if_pos hr, if_pos rfl]
        show num_Lay.f l (p * 32) (bytesE a b s) = _
        unfold num_Lay.f layB
        rw [if_pos ⟨by omega, by omega⟩, if_pos ⟨by omega, by omega, by omega⟩, hE]
      · rw [if_neg hr, if_neg hr, if_neg (by decide)]
    · rw [if_neg hp, if_neg hp]
  · rw [if_neg hl, if_neg hl]
theorem refLay_eq (l m : List Int) (a : Int) (h0 : 0 ≤ a) (h1 : a + m.length ≤ l.length) (hl : l.length ≤ 1000) : leveeref01_Lay.f l a m = some (l.take a.toNat ++ (m ++ l.drop (a.toNat + m.length)), 0) := by
  unfold leveeref01_Lay.f
  have e : (a + (m.length : Int)).toNat = a.toNat + m.length := by omega
  have h2 : (l.take a.toNat).length = a.toNat := by rw [List.length_take]; omega
  have h3 : (l.drop (a.toNat + m.length)).length = l.length - (a.toNat + m.length) := List.length_drop
  rw [if_neg (by omega), if_neg (by omega), w64 (by omega) (by omega), if_neg (by omega), if_pos h0, if_pos (by omega), List.nil_append, if_pos (by rw [h2, List.length_nil]; omega), Option.bind_some, if_pos (by omega), Option.bind_some, w64 (by omega) (by omega), if_pos (by omega), if_pos (by omega), e, if_pos (by rw [List.length_append, h3]; omega), List.append_assoc]
theorem rlay_j0 (k : Nat) (l : List Int) (p : Int) (x : Bool) (a : Int) (b : Bool) (s : ByteArray) : leveeref08_Lay.j0 (k + 1) l p x a b s = if x = true then (some (([] : List Int), 3)) else ((leveeref08_Put.f k a b s).bind fun bt227 => (if bt227.2 = 0 then ((leveeref01_Lay.f l (wrap64 (32 * p)) bt227.1).bind fun bt231 => (some (bt231.1, bt231.2))) else (some (([] : List Int), bt227.2)))) := rfl
theorem rLay_eq (k : Nat) (l : List Int) (p a : Int) (b : Bool) (s : ByteArray) (hs : s.size ≤ 9223372036854775807) (hk : s.size + 102 < k) : leveeref08_Lay.f k l p a b s = some (layS l p a b s) := by
  obtain ⟨k, rfl⟩ : ∃ m, k = m + 1 := ⟨k - 1, by omega⟩
  unfold leveeref08_Lay.f layS
  by_cases hl : l.length = 256
  · rw [if_pos (by omega), if_pos hl]
    by_cases h0 : p < 0
    · rw [if_pos h0, if_neg (by omega), rlay_j0, if_pos rfl]
    · rw [if_neg h0, rlay_j0]
      by_cases h7 : p > 7
      · rw [if_pos (decide_eq_true h7), if_neg (by omega)]
      · rw [if_neg (by rw [decide_eq_true_eq]; exact h7), if_pos (by omega), rPut_eq k a b s hs (by omega), Option.bind_some]
        by_cases hr : rightS a b s = true
        · have hE := bytesE_length a b s (by have := (right_small hr).1; omega)
          rw [if_pos hr, if_pos hr, if_pos rfl, w64 (by omega) (by omega)]
          show ((leveeref01_Lay.f l (32 * p) (bytesE a b s)).bind fun bt231 => some (bt231.1, bt231.2)) = _
          rw [refLay_eq l _ _ (by omega) (by omega) (by omega), Option.bind_some, hE]
          unfold layB
          rw [Int.mul_comm p 32]
        · rw [if_neg hr, if_neg hr, if_neg (by decide)]
  · rw [if_neg (by omega), if_neg hl]
theorem layB_length {l : List Int} (hl : l.length = 256) {p : Int} (hp : 0 ≤ p ∧ p < 8) {a : Int} {b : Bool} {s : ByteArray} (hr : rightS a b s = true) : (layB l p a b s).length = 256 := by
  have hE := bytesE_length a b s (by have := (right_small hr).1; omega)
  unfold layB
  rw [List.length_append, List.length_append, hE, List.length_take, List.length_drop]
  omega
theorem layB_bytes {l : List Int} (hb : isBytes l) (p a : Int) (b : Bool) (s : ByteArray) : isBytes (layB l p a b s) := by
  unfold layB
  exact isBytes_append (isBytes_take hb _) (isBytes_append (bytesE_bytes a b s) (fun x hx => hb x (List.mem_of_mem_drop hx)))
theorem read_laid {l : List Int} (hl : l.length = 256) {p : Int} (hp : 0 ≤ p ∧ p < 8) {a : Int} {b : Bool} {s : ByteArray} (hr : rightS a b s = true) : readE (layB l p a b s) p = (a, b, s, 0) := by
  have hE := bytesE_length a b s (by have := (right_small hr).1; omega)
  have hc : cut32 (layB l p a b s) p = bytesE a b s := by
    have h1 : (l.take (p * 32).toNat).length = (p * 32).toNat := by rw [List.length_take]; omega
    unfold cut32 layB
    rw [← List.append_assoc, List.take_left' (by rw [List.length_append, h1, hE]; omega), List.drop_left' h1]
  unfold readE
  rw [if_pos (layB_length hl hp hr), if_pos hp, hc, get_put hr]
theorem Spoil_loop : ∀ (d i k : Nat) (l : List Int), i + d = l.length → d < k → l.length ≤ 140737488355328 → ∃ r, leveeref01_Spoil.l0 k l (i : Int) = some r := by
  intro d
  induction d with
  | zero =>
    intro i k l hi hk hl
    obtain ⟨k, rfl⟩ : ∃ m, k = m + 1 := ⟨k - 1, by omega⟩
    unfold leveeref01_Spoil.l0
    rw [if_neg (by omega)]
    exact ⟨_, rfl⟩
  | succ d ih =>
    intro i k l hi hk hl
    obtain ⟨k, rfl⟩ : ∃ m, k = m + 1 := ⟨k - 1, by omega⟩
    unfold leveeref01_Spoil.l0
    rw [if_pos (by omega), if_pos (by omega), w64 (by omega) (by omega)]
    exact ih (i + 1) k _ (by rw [List.length_set]; omega) (by omega) (by rw [List.length_set]; exact hl)
theorem Spoil_eq (l : List Int) (hl : l.length ≤ 140737488355328) (k : Nat) (hk : l.length < k) : ∃ r, leveeref01_Spoil.f k l = some r := Spoil_loop l.length 0 k l (by omega) hk hl
theorem Ints_loop (l : List Int) (hl : l.length ≤ 1000) : ∀ (d i k : Nat), i + d = l.length → d < k → leveeref01_Ints.l0 k l l (i : Int) = some true := by
  intro d
  induction d with
  | zero =>
    intro i k hi hk
    obtain ⟨k, rfl⟩ : ∃ m, k = m + 1 := ⟨k - 1, by omega⟩
    unfold leveeref01_Ints.l0
    rw [if_neg (by omega)]
  | succ d ih =>
    intro i k hi hk
    obtain ⟨k, rfl⟩ : ∃ m, k = m + 1 := ⟨k - 1, by omega⟩
    unfold leveeref01_Ints.l0
    rw [if_pos (by omega), if_pos (by omega), if_pos (by omega), if_pos rfl, w64 (by omega) (by omega)]
    exact ih (i + 1) k (by omega) (by omega)
theorem Ints_eq (k : Nat) (l : List Int) (hl : l.length ≤ 1000) (hk : l.length < k) : leveeref01_Ints.f k l l = some true := by
  unfold leveeref01_Ints.f
  rw [if_pos rfl]
  exact Ints_loop l hl l.length 0 k (by omega) hk
theorem Same_loop (l : List S23) (hl : l.length ≤ 1000) : ∀ (d i k : Nat), i + d = l.length → d < k → leveeref08_Same.l0 k l l (i : Int) = some true := by
  intro d
  induction d with
  | zero =>
    intro i k hi hk
    obtain ⟨k, rfl⟩ : ∃ m, k = m + 1 := ⟨k - 1, by omega⟩
    unfold leveeref08_Same.l0
    rw [if_neg (by omega)]
  | succ d ih =>
    intro i k hi hk
    obtain ⟨k, rfl⟩ : ∃ m, k = m + 1 := ⟨k - 1, by omega⟩
    unfold leveeref08_Same.l0
    rw [if_pos (by omega), if_pos (by omega), if_pos (by omega), if_neg (by simp), w64 (by omega) (by omega)]
    exact ih (i + 1) k (by omega) (by omega)
theorem Same_eq (k : Nat) (l : List S23) (hl : l.length ≤ 1000) (hk : l.length < k) : leveeref08_Same.f k l l = some true := by
  unfold leveeref08_Same.f
  rw [if_pos rfl]
  exact Same_loop l hl l.length 0 k (by omega) hk
/-- The entries of a block, so many places from one on. -/
def entsE (l : List Int) : Nat → Int → List DE
  | 0, _ => []
  | q + 1, i => if (readE l i).2.2.2 = 0 ∧ (readE l i).1 ≠ 0 then (i, (readE l i).1, (readE l i).2.1, (readE l i).2.2.1) :: entsE l q (i + 1) else entsE l q (i + 1)
theorem entsE_length (l : List Int) : ∀ (q : Nat) (i : Int), (entsE l q i).length ≤ q
  | 0, _ => Nat.le_refl 0
  | q + 1, i => by
    have h := entsE_length l q (i + 1)
    unfold entsE
    split
    · rw [List.length_cons]; omega
    · omega
theorem ent_eq (k : Nat) (hk : 100 ≤ k) (l : List Int) (hb : isBytes l) : ∀ (q : Nat) (i : Int), entR k l q i = some (entsE l q i)
  | 0, _ => rfl
  | q + 1, i => by
    unfold entR entsE
    rw [dRead_eq k hk l hb, Option.bind_some, ent_eq k hk l hb q, Option.bind_some]
theorem dFind_eq (k : Nat) (hk : 100 ≤ k) (l : List Int) (hb : isBytes l) (s : ByteArray) : dirent_Find.f k l s = some (findL s (entsE l 8 0)) := by
  unfold dirent_Find.f
  rw [ent_eq k hk l hb, Option.bind_some]
def listE (l : List Int) : List S23 × List Int × Int := if l.length = 256 then ((entsE l 8 0).map ofDE, (entsE l 8 0).map (·.1), 0) else ([], [], 4)
theorem dList_eq (k : Nat) (hk : 100 ≤ k) (l : List Int) (hb : isBytes l) : dirent_List.f k l = some (listE l) := by
  unfold dirent_List.f listE
  by_cases hl : l.length = 256
  · rw [if_pos hl, if_pos hl, ent_eq k hk l hb, Option.bind_some]
  · rw [if_neg hl, if_neg hl]
theorem rList_l0 (l : List Int) (hb : isBytes l) : ∀ (q k : Nat) (i : Int) (x : List S23) (y : List Int), 300 ≤ k → 0 ≤ i → i + q = 8 → x.length + q ≤ 1000 → y.length + q ≤ 1000 → leveeref08_List.l0 (k + q + 1) l x y i = some (x ++ (entsE l q i).map ofDE, y ++ (entsE l q i).map (·.1), 0)
  | 0, k, i, x, y, hk, h0, hq, hx, hy => by
    unfold leveeref08_List.l0 entsE
    rw [if_neg (by omega), List.map_nil, List.map_nil, List.append_nil, List.append_nil]
  | q + 1, k, i, x, y, hk, h0, hq, hx, hy => by
    rw [show k + (q + 1) + 1 = (k + q + 1) + 1 from rfl]
    unfold leveeref08_List.l0 entsE
    rw [if_pos (by omega), rRead_eq (k + q + 1) (by omega) l hb i, Option.bind_some, w64 (by omega) (by omega)]
    by_cases he : (readE l i).2.2.2 = 0
    · rw [if_pos he]
      by_cases ha : (readE l i).1 = 0
      · rw [if_pos ha, if_neg (fun h => h.2 ha), rList_l0 l hb q k (i + 1) x y hk (by omega) (by omega) (by omega) (by omega)]
      · rw [if_neg ha, if_pos (⟨he, ha⟩ : (readE l i).2.2.2 = 0 ∧ (readE l i).1 ≠ 0), if_pos (by omega), if_pos (by omega), rList_l0 l hb q k (i + 1) _ _ hk (by omega) (by omega) (by rw [List.length_append, List.length_singleton]; omega) (by rw [List.length_append, List.length_singleton]; omega), List.map_cons, List.map_cons, List.append_assoc, List.append_assoc]
        rfl
    · rw [if_neg he, if_neg (fun h => he h.1), rList_l0 l hb q k (i + 1) x y hk (by omega) (by omega) (by omega) (by omega)]
theorem rList_eq (k : Nat) (hk : 400 ≤ k) (l : List Int) (hb : isBytes l) : leveeref08_List.f k l = some (listE l) := by
  unfold leveeref08_List.f listE
  by_cases hl : l.length = 256
  · obtain ⟨k, rfl⟩ : ∃ m, k = m + 8 + 1 := ⟨k - 9, by omega⟩
    rw [if_pos (by omega), if_pos hl, rList_l0 l hb 8 k 0 [] [] (by omega) (by omega) (by omega) (by decide) (by decide), List.nil_append, List.nil_append]
  · rw [if_neg (by omega), if_neg hl]
theorem rfind_j1 (k : Nat) (l : List Int) (s : ByteArray) (i : Int) (x : Bool) : leveeref08_Find.j1 (k + 1) l s i x = if x = true then ((leveeref08_Read.f k l i).bind fun bt283 => (if bt283.2.2.2 = 0 then (if bt283.1 = 0 then (leveeref08_Find.l0 k l s (wrap64 (i + 1))) else (if bt283.2.2.1.toList = s.toList then (some i) else (leveeref08_Find.l0 k l s (wrap64 (i + 1))))) else (leveeref08_Find.l0 k l s (wrap64 (i + 1))))) else (some (-1)) := rfl
theorem rfind_l0 (k : Nat) (l : List Int) (s : ByteArray) (i : Int) : leveeref08_Find.l0 (k + 1) l s i = if i < 8 then (leveeref08_Find.j1 k l s i ((l.length : Int) == 256)) else (leveeref08_Find.j1 k l s i false) := rfl
theorem rFind_loop (l : List Int) (hb : isBytes l) (hl : l.length = 256) (s : ByteArray) : ∀ (q k : Nat) (i : Int), 300 ≤ k → 0 ≤ i → i + q = 8 → leveeref08_Find.l0 (k + 2 * q + 2) l s i = some (findL s (entsE l q i))
  | 0, k, i, hk, h0, hq => by
    rw [show k + 2 * 0 + 2 = (k + 1) + 1 from rfl, rfind_l0, if_neg (by omega), rfind_j1, if_neg (by decide)]
    rfl
  | q + 1, k, i, hk, h0, hq => by
    rw [show k + 2 * (q + 1) + 2 = (k + 2 * q + 2 + 1) + 1 from by omega, rfind_l0, if_pos (by omega), rfind_j1, if_pos (by rw [hl]; rfl), rRead_eq _ (by omega) l hb i, Option.bind_some, w64 (by omega) (by omega), rFind_loop l hb hl s q k (i + 1) hk (by omega) (by omega)]
    show _ = some (findL s (if (readE l i).2.2.2 = 0 ∧ (readE l i).1 ≠ 0 then (i, (readE l i).1, (readE l i).2.1, (readE l i).2.2.1) :: entsE l q (i + 1) else entsE l q (i + 1)))
    by_cases he : (readE l i).2.2.2 = 0
    · rw [if_pos he]
      by_cases ha : (readE l i).1 = 0
      · rw [if_pos ha, if_neg (fun h => h.2 ha)]
      · rw [if_neg ha, if_pos (⟨he, ha⟩ : (readE l i).2.2.2 = 0 ∧ (readE l i).1 ≠ 0)]
        show _ = some (if ((readE l i).2.2.1.toList == s.toList) = true then i else findL s (entsE l q (i + 1)))
        by_cases hn : (readE l i).2.2.1.toList = s.toList
        · rw [if_pos hn, if_pos (beq_iff_eq.mpr hn)]
        · rw [if_neg hn, if_neg (fun h => hn (beq_iff_eq.mp h))]
    · rw [if_neg he, if_neg (fun h => he h.1)]
theorem ents_none (l : List Int) (hl : l.length ≠ 256) : ∀ (q : Nat) (i : Int), entsE l q i = []
  | 0, _ => rfl
  | q + 1, i => by
    unfold entsE
    rw [if_neg, ents_none l hl q]
    unfold readE
    rw [if_neg hl]
    exact fun h => absurd h.1 (by decide)
theorem rFind_eq (k : Nat) (hk : 400 ≤ k) (l : List Int) (hb : isBytes l) (s : ByteArray) : leveeref08_Find.f k l s = some (findL s (entsE l 8 0)) := by
  unfold leveeref08_Find.f
  by_cases hl : l.length = 256
  · obtain ⟨k, rfl⟩ : ∃ m, k = m + 2 * 8 + 2 := ⟨k - 18, by omega⟩
    exact rFind_loop l hb hl s 8 k 0 (by omega) (by omega) (by omega)
  · obtain ⟨k, rfl⟩ : ∃ m, k = m + 1 + 1 := ⟨k - 2, by omega⟩
    rw [rfind_l0, if_pos (by decide), rfind_j1, if_neg (by rw [beq_iff_eq]; omega), ents_none l hl]
    rfl
def roomE (l : List Int) : Nat → Int → Int
  | 0, _ => -1
  | q + 1, i => if l.length = 256 ∧ zeroS (cut32 l i) = true then i else roomE l q (i + 1)
theorem cut32_length {l : List Int} (hl : l.length = 256) {i : Int} (h : 0 ≤ i ∧ i < 8) : (cut32 l i).length = 32 := by
  unfold cut32
  rw [List.length_drop, List.length_take]
  omega
theorem room_eq (k : Nat) (hk : 100 ≤ k) (l : List Int) (hb : isBytes l) : ∀ (q : Nat) (i : Int), 0 ≤ i → i + q = 8 → roomR k l q i = some (roomE l q i)
  | 0, _, _, _ => rfl
  | q + 1, i, h0, hq => by
    unfold roomR roomE
    by_cases hl : l.length = 256
    · have h := cut32_length hl (i := i) ⟨h0, by omega⟩
      rw [if_pos hl, Zero_eq k _ (cut32_bytes hb i) (by omega) (by omega), Option.bind_some, room_eq k hk l hb q (i + 1) (by omega) (by omega)]
      by_cases hz : zeroS (cut32 l i) = true
      · rw [if_pos hz, if_pos ⟨hl, hz⟩]
      · rw [if_neg hz, if_neg (fun h => hz h.2)]
    · rw [if_neg hl, if_neg (fun h => hl h.1), room_eq k hk l hb q (i + 1) (by omega) (by omega)]
theorem dRoom_eq (k : Nat) (hk : 100 ≤ k) (l : List Int) (hb : isBytes l) : dirent_Room.f k l = some (roomE l 8 0) := room_eq k hk l hb 8 0 (by omega) (by omega)
theorem rroom_l0 (k : Nat) (l : List Int) (i : Int) : leveeref08_Room.l0 (k + 1) l i = if i < 8 then (leveeref08_Room.j1 k l i ((l.length : Int) == 256)) else (leveeref08_Room.j1 k l i false) := rfl
theorem rroom_j1 (k : Nat) (x0 : List Int) (x3 : Int) (x10 : Bool) : leveeref08_Room.j1 (k + 1) x0 x3 x10 = if x10 = true then (if 0 ≤ (wrap64 (32 * x3)) then (if (wrap64 (32 * x3)) ≤ (wrap64 ((wrap64 (32 * x3)) + 32)) then (if (wrap64 ((wrap64 (32 * x3)) + 32)) ≤ (x0.length : Int) then ((leveeref01_Zero.f k ((x0.take ((wrap64 ((wrap64 (32 * x3)) + 32)) : Int).toNat).drop ((wrap64 (32 * x3)) : Int).toNat)).bind fun t290 => (if t290 = true then (some x3) else (leveeref08_Room.l0 k x0 (wrap64 (x3 + 1))))) else (none)) else (none)) else (none)) else (some (-1)) := rfl
theorem rRoom_loop (l : List Int) (hl : l.length = 256) : ∀ (q k : Nat) (i : Int), 300 ≤ k → 0 ≤ i → i + q = 8 → leveeref08_Room.l0 (k + 2 * q + 2) l i = some (roomE l q i)
  | 0, k, i, hk, h0, hq => by
    rw [show k + 2 * 0 + 2 = (k + 1) + 1 from rfl, rroom_l0, if_neg (by omega), rroom_j1, if_neg (by decide)]
    rfl
  | q + 1, k, i, hk, h0, hq => by
    have hc : (l.take (32 * i + 32).toNat).drop (32 * i).toNat = cut32 l i := by
      unfold cut32
      rw [Int.mul_comm 32 i]
    have h := cut32_length hl (i := i) ⟨h0, by omega⟩
    rw [show k + 2 * (q + 1) + 2 = (k + 2 * q + 2 + 1) + 1 from by omega, rroom_l0, if_pos (by omega), rroom_j1, if_pos (by rw [hl]; rfl), w64 (x := 32 * i) (by omega) (by omega), w64 (x := 32 * i + 32) (by omega) (by omega), if_pos (by omega), if_pos (by omega), if_pos (by omega), hc, refZero_eq _ _ (by omega) (by omega), Option.bind_some, w64 (by omega) (by omega), rRoom_loop l hl q k (i + 1) hk (by omega) (by omega)]
    show _ = some (if l.length = 256 ∧ zeroS (cut32 l i) = true then i else roomE l q (i + 1))
    by_cases hz : zeroS (cut32 l i) = true
    · rw [if_pos hz, if_pos ⟨hl, hz⟩]
    · rw [if_neg hz, if_neg (fun h => hz h.2)]
theorem room_none (l : List Int) (hl : l.length ≠ 256) : ∀ (q : Nat) (i : Int), roomE l q i = -1
  | 0, _ => rfl
  | q + 1, i => by
    unfold roomE
    rw [if_neg (fun h => hl h.1), room_none l hl q]
theorem rRoom_eq (k : Nat) (hk : 400 ≤ k) (l : List Int) : leveeref08_Room.f k l = some (roomE l 8 0) := by
  unfold leveeref08_Room.f
  by_cases hl : l.length = 256
  · obtain ⟨k, rfl⟩ : ∃ m, k = m + 2 * 8 + 2 := ⟨k - 18, by omega⟩
    exact rRoom_loop l hl 8 k 0 (by omega) (by omega) (by omega)
  · obtain ⟨k, rfl⟩ : ∃ m, k = m + 1 + 1 := ⟨k - 2, by omega⟩
    rw [rroom_l0, if_pos (by decide), rroom_j1, if_neg (by rw [beq_iff_eq]; omega), room_none l hl]
/-- A name that lies at a place is found, at that place or before. -/
theorem find_le {l : List Int} {p a : Int} {b : Bool} {s : ByteArray} (hr : readE l p = (a, b, s, 0)) (ha : a ≠ 0) : ∀ (q : Nat) (i : Int), i ≤ p → p < i + q → i ≤ findL s (entsE l q i) ∧ findL s (entsE l q i) ≤ p
  | 0, i, h1, h2 => by omega
  | q + 1, i, h1, h2 => by
    unfold entsE
    by_cases hp : i = p
    · subst hp
      rw [hr, if_pos ⟨rfl, ha⟩]
      show i ≤ (if (s.toList == s.toList) = true then i else _) ∧ (if (s.toList == s.toList) = true then i else _) ≤ i
      rw [if_pos (by simp)]
      omega
    · have ih := find_le hr ha q (i + 1) (by omega) (by omega)
      split
      · show i ≤ (if ((readE l i).2.2.1.toList == s.toList) = true then i else findL s (entsE l q (i + 1))) ∧ (if ((readE l i).2.2.1.toList == s.toList) = true then i else findL s (entsE l q (i + 1))) ≤ p
        split <;> omega
      · omega
theorem known_lay : layS (List.replicate 256 0) 3 5 false ⟨#[97]⟩ = (List.replicate 96 0 ++ ([5, 0, 0, 1, 97] ++ List.replicate 155 0), 0) := by decide +kernel
theorem known_bytes : isBytes (List.replicate 96 0 ++ ([5, 0, 0, 1, 97] ++ List.replicate 155 0)) := by
  refine isBytes_append (isBytes_zeros _) (isBytes_append ?_ (isBytes_zeros _))
  intro x hx
  simp at hx
  omega
theorem known_find : findL ⟨#[97]⟩ (entsE (List.replicate 96 0 ++ ([5, 0, 0, 1, 97] ++ List.replicate 155 0)) 8 0) = 3 := by decide +kernel
theorem known_room : roomE (List.replicate 96 0 ++ ([5, 0, 0, 1, 97] ++ List.replicate 155 0)) 8 0 = 0 := by decide +kernel
theorem known_eq (k : Nat) (hk : 100 ≤ k) : leveelaw08_known.f k = some true := by
  have hr : rightS 5 false ⟨#[97]⟩ = true := by decide +kernel
  have hE : bytesE 5 false ⟨#[97]⟩ = [5, 0, 0, 1, 97] ++ List.replicate 27 0 := by decide +kernel
  have h6 : (strOfNums (([5, 0, 0, 1, 97] ++ List.replicate 27 0 : List Int).take 6)).toList = ([5, 0, 0, 1, 97, 0] : List UInt8) := by decide +kernel
  unfold leveelaw08_known.f
  rw [dPut_eq, if_pos hr, Option.bind_some, if_pos (by decide), dLay_eq, known_lay, Option.bind_some, if_pos rfl]
  dsimp only
  rw [hE, if_pos (by decide), if_pos (by decide), if_pos h6, if_pos rfl, dFind_eq k hk _ known_bytes, Option.bind_some, known_find, if_pos rfl, dRoom_eq k hk _ known_bytes, Option.bind_some, known_room, if_pos rfl]
  unfold dirent_Name.f
  rw [show nameS ⟨#[97]⟩ = true from by decide +kernel, show nameS ⟨#[46, 46]⟩ = false from by decide +kernel]
  rfl
end Go.Proofs.Ytjlacfhmjjjpiaa.Dirent
