/-
Plain laws on names: what dirent.Name tells (rune by rune) and what the reference tells (byte by byte) is the same.
Conditions: none.
-/
import Derived.Test.YtjlacfhmjjjpiaaPlain
import Derived.Test.YtjlacfhmjjjpiaaHandDirent
import Derived.Test.YtjlacfhmjjjpiaaPx2
namespace Go.Proofs.Ytjlacfhmjjjpiaa.Dirent
open Go.RowKit Go.Proofs.YtjlacfhmjjjpiaaW.PrintWords Go.Proofs.YtjlacfhmjjjpiaaW.PrintLast Go.Proofs.YtjlacfhmjjjpiaaW.PrintMore Go.Proofs.Ytjlacfhmjjjpiaa.P Go.Proofs.Ytjlacfhmjjjpiaa.Num Go.Proofs.Ytjlacfhmjjjpiaa.Plain
theorem get_b (s : ByteArray) (i : Nat) (h : i < s.size) : s.get! i = s[i]'h := by
  simp [ByteArray.get!, getElem!_pos, h]
  rfl
theorem bt_nat (s : ByteArray) (i : Nat) (h : i < s.size) : bt s (i : Int) = ((s[i]'h).toNat : Int) := by
  simp [bt, h]
/-- Are so many bytes from here on no slash and no 0? -/
def bytesOk (s : ByteArray) : Nat → Nat → Bool
  | 0, _ => true
  | d + 1, i => !(bt s (i : Int) == 0) && (bt s (i : Int) != 47) && bytesOk s d (i + 1)
theorem refName_loop (s : ByteArray) : ∀ (d i k : Nat) (b : Bool), i + d = s.size → d < k → s.size ≤ 9223372036854775807 → leveeref08_Name.l0 k s b (i : Int) = some (b && bytesOk s d i)
  | 0, i, k, b, h, hk, hs => by
    obtain ⟨k, rfl⟩ : ∃ m, k = m + 1 := ⟨k - 1, by omega⟩
    unfold leveeref08_Name.l0
    rw [if_neg (by omega), bytesOk, Bool.and_true]
  | d + 1, i, k, b, h, hk, hs => by
    obtain ⟨k, rfl⟩ : ∃ m, k = m + 1 := ⟨k - 1, by omega⟩
    unfold leveeref08_Name.l0
    rw [if_pos (by omega), w64 (by omega) (by omega), show (i : Int) + 1 = ((i + 1 : Nat) : Int) from rfl]
    cases b
    · rw [if_neg (by decide), refName_loop s d (i + 1) k false (by omega) (by omega) hs, Bool.false_and, Bool.false_and]
    · rw [if_pos rfl, if_pos (by omega), bytesOk]
      by_cases h0 : bt s (i : Int) = 0
      · rw [if_pos h0, refName_loop s d (i + 1) k false (by omega) (by omega) hs, h0]
        rfl
      · have e0 : (bt s (i : Int) == 0) = false := beq_eq_false_iff_ne.mpr h0
        rw [if_neg h0, refName_loop s d (i + 1) k _ (by omega) (by omega) hs, e0]
        rfl
theorem decode_cont (s : ByteArray) (pos : Nat) (h : pos < s.size) (ha : 128 ≤ (s.get! pos).toNat) : ∀ j, j < (Utf8.decode s pos).2 → pos + j < s.size ∧ 128 ≤ (s.get! (pos + j)).toNat := by
  have hn : ¬ (s.get! (pos + 0)).toNat < 128 := by rw [Nat.add_zero]; omega
  simp only [Utf8.decode, hn, if_false]
  repeat' split
  all_goals (intro j hj; simp only [Bool.and_eq_true, decide_eq_true_eq, beq_iff_eq] at *)
  all_goals (rcases j with _ | _ | _ | _ | j)
  all_goals (try simp only [Nat.zero_add, Nat.reduceAdd, Nat.add_zero] at *)
  all_goals first | omega | (exfalso; simp at hj; done) | (simp at hj; omega) | (simp only [Nat.add_zero]; omega) | (constructor <;> omega)
theorem bytesOk_skip (s : ByteArray) : ∀ (m d i : Nat), (∀ j, j < m → i + j < s.size ∧ 128 ≤ (s.get! (i + j)).toNat) → bytesOk s (m + d) i = bytesOk s d (i + m)
  | 0, d, i, _ => by rw [Nat.zero_add, Nat.add_zero]
  | m + 1, d, i, h => by
    have h0 := h 0 (by omega)
    rw [Nat.add_zero] at h0
    rw [get_b s i h0.1] at h0
    have hb := bt_nat s i h0.1
    rw [show m + 1 + d = (m + d) + 1 by omega, bytesOk, bytesOk_skip s m d (i + 1) (fun j hj => by have := h (j + 1) (by omega); rwa [show i + (j + 1) = i + 1 + j by omega] at this)]
    have e0 : (bt s (i : Int) == 0) = false := by rw [beq_eq_false_iff_ne]; omega
    have e1 : (bt s (i : Int) != 47) = true := by rw [bne_iff_ne]; omega
    rw [e0, e1, show i + (m + 1) = i + 1 + m by omega]
    rfl
theorem nameR_bytes (s : ByteArray) : ∀ (n d b pos : Nat), d ≤ n → pos + d = s.size → d ≤ b → nameR s b pos = bytesOk s d pos
  | _, 0, b, pos, _, h, _ => by rw [nameR_end s b pos (by omega), bytesOk]
  | 0, d + 1, b, pos, hn, _, _ => by omega
  | n + 1, d + 1, b, pos, hn, h, hb => by
    obtain ⟨b, rfl⟩ : ∃ m, b = m + 1 := ⟨b - 1, by omega⟩
    have hp : pos < s.size := by omega
    have hbt := bt_nat s pos hp
    rw [nameR, if_pos hp]
    by_cases ha : (s[pos]'hp).toNat < 128
    · rw [decode_ascii s pos hp ha]
      dsimp only
      rw [bytesOk, hbt]
      by_cases h47 : ((s[pos]'hp).toNat : Int) = 47
      · rw [if_pos (Or.inl h47), h47]
        rfl
      · by_cases h0 : ((s[pos]'hp).toNat : Int) = 0
        · rw [if_pos (Or.inr h0), h0]
          rfl
        · rw [if_neg (by rintro (h | h); exact h47 h; exact h0 h), nameR_bytes s n d b (pos + 1) (by omega) (by omega) (by omega)]
          have e0 : (((s[pos]'hp).toNat : Int) == 0) = false := beq_eq_false_iff_ne.mpr h0
          have e1 : (((s[pos]'hp).toNat : Int) != 47) = true := bne_iff_ne.mpr h47
          rw [e0, e1]
          rfl
    · have hh := decode_high s pos hp (by omega)
      have hc := decode_cont s pos hp (by rw [get_b s pos hp]; omega)
      generalize hD : (Utf8.decode s pos).2 = m at hh hc
      have hm : m ≤ d + 1 := by
        rcases Nat.lt_or_ge (d + 1) m with h1 | h1
        · have := (hc (d + 1) h1).1; omega
        · exact h1
      have hsk := bytesOk_skip s m (d + 1 - m) pos hc
      rw [show m + (d + 1 - m) = d + 1 by omega] at hsk
      rw [if_neg (by omega), hsk, nameR_bytes s n (d + 1 - m) b (pos + m) (by omega) (by omega) (by omega)]
theorem toList_length (s : ByteArray) : s.toList.length = s.size := by rw [Plain.toList_eq, data_length]
/-- Whether a text is a name. -/
theorem refName_eq (k : Nat) (s : ByteArray) (hs : s.size ≤ 9223372036854775807) (hk : s.size + 1 < k) : leveeref08_Name.f k s = some (nameS s) := by
  obtain ⟨k, rfl⟩ : ∃ m, k = m + 1 := ⟨k - 1, by omega⟩
  have hl := fun b => refName_loop s s.size 0 k b (by omega) (by omega) hs
  have hr := nameR_bytes s s.size s.size s.size 0 (by omega) (by omega) (by omega)
  have hj : ∀ b, leveeref08_Name.j0 (k + 1) s b = some (b && bytesOk s s.size 0) := fun b => by unfold leveeref08_Name.j0; exact hl b
  unfold leveeref08_Name.f nameS
  rw [hr]
  by_cases h1 : (s.size : Int) ≥ 1
  · rw [if_pos h1]
    have e0 : (s.toList == ([] : List UInt8)) = false := by
      rw [beq_eq_false_iff_ne]
      intro h
      have h2 := toList_length s
      rw [h] at h2
      simp at h2
      omega
    rw [e0]
    by_cases h2 : (s.size : Int) ≤ 24
    · rw [if_pos h2, decide_eq_true h2]
      by_cases h3 : s.toList = ([46] : List UInt8)
      · have e1 : (s.toList == ([46] : List UInt8)) = true := beq_iff_eq.mpr h3
        rw [if_pos h3, hj, e1]
        rfl
      · have e1 : (s.toList == ([46] : List UInt8)) = false := beq_eq_false_iff_ne.mpr h3
        rw [if_neg h3, hj, e1]
        simp [bne]
    · rw [if_neg h2, hj, decide_eq_false h2]
      simp
  · rw [if_neg h1, hj]
    have e0 : (s.toList == ([] : List UInt8)) = true := by
      rw [beq_iff_eq]
      have h2 := toList_length s
      exact List.eq_nil_of_length_eq_zero (by omega)
    rw [e0]
    rfl
end Go.Proofs.Ytjlacfhmjjjpiaa.Dirent
