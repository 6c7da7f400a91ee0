/-
Disks as rows of blocks, in plain lists: what package image tells, and what its small functions come to.
Conditions: none.
-/
import Derived.Test.YtnlneiiccoakjaaPlain
import Derived.Test.YtnlneiiccoakjaaPx2
namespace Go.Proofs.Ytnlneiiccoakjaa.P
open Go.RowKit Go.Proofs.YtnlneiiccoakjaaW.PrintWords Go.Proofs.YtnlneiiccoakjaaW.PrintLast Go.Proofs.YtnlneiiccoakjaaW.PrintMore
attribute [local go_sem] max2_int min2_int max_two min_two max_three min_three max_four min_four
set_option linter.unusedVariables false
set_option linter.unusedSimpArgs false
open Go.Proofs.Ytnlneiiccoakjaa.Num Go.Proofs.Ytnlneiiccoakjaa.Plain
/-- Are these bytes? -/
def bytesB (l : List Int) : Bool := l.all fun x => decide (0 ≤ x ∧ x < 256)
theorem bytesB_iff {l : List Int} : bytesB l = true ↔ isBytes l := by
  unfold bytesB isBytes
  rw [List.all_eq_true]
  exact ⟨fun h x hx => of_decide_eq_true (h x hx), fun h x hx => decide_eq_true (h x hx)⟩
/-- Block i. -/
def chunk (b : List Int) (i : Nat) : List Int := (b.drop (256 * i)).take 256
/-- The kind of a block behind another one. -/
def kindP (x a : List Int) : Int := if zeroS x = true then 0 else if a ≠ [] ∧ x = a then 2 else 1
def aheadN (b : List Int) : Nat → List Int
  | 0 => []
  | i + 1 => chunk b i
def kindN (b : List Int) (i : Nat) : Int := kindP (chunk b i) (aheadN b i)
/-- A block more. -/
def stepR (l : List S41) (k : Int) (x : List Int) : List S41 :=
  match l.getLast? with
  | none => [⟨k, 1, if k = 1 then x else []⟩]
  | some y => if y.f0 = k then l.dropLast ++ [⟨k, y.f1 + 1, y.f2 ++ (if k = 1 then x else [])⟩] else l ++ [⟨k, 1, if k = 1 then x else []⟩]
theorem stepR_nil (k : Int) (x : List Int) : stepR [] k x = [⟨k, 1, if k = 1 then x else []⟩] := rfl
theorem stepR_snoc (xs : List S41) (y : S41) (k : Int) (x : List Int) : stepR (xs ++ [y]) k x = if y.f0 = k then xs ++ [⟨k, y.f1 + 1, y.f2 ++ (if k = 1 then x else [])⟩] else xs ++ [y] ++ [⟨k, 1, if k = 1 then x else []⟩] := by
  unfold stepR
  rw [List.getLast?_concat]
  simp only [List.dropLast_concat]
def rowsN (b : List Int) : Nat → List S41
  | 0 => []
  | i + 1 => stepR (rowsN b i) (kindN b i) (chunk b i)
def diskB (b : List Int) : Bool := decide (b.length ≠ 0 ∧ b.length % 256 = 0 ∧ b.length ≤ 1048576)
def rowsP (b : List Int) : List S41 × Int := if diskB b = true then (rowsN b (b.length / 256), 0) else ([], 1)
def image_Rows.f (l0 : List Int) : Option (List S41 × Int) := if bytesB l0 = true then some (rowsP l0) else none
theorem snoc_cases {α : Type} (l : List α) : l = [] ∨ ∃ xs x, l = xs ++ [x] := by
  rcases List.eq_nil_or_concat l with h | ⟨xs, x, h⟩
  · exact .inl h
  · exact .inr ⟨xs, x, by rw [h, List.concat_eq_append]⟩
theorem chunk_length {b : List Int} {i : Nat} (h : 256 * i + 256 ≤ b.length) : (chunk b i).length = 256 := by
  unfold chunk
  rw [List.length_take, List.length_drop]
  omega
theorem chunk_le (b : List Int) (i : Nat) : (chunk b i).length ≤ 256 := by
  unfold chunk
  rw [List.length_take]
  omega
theorem chunk_bytes {b : List Int} (h : isBytes b) (i : Nat) : isBytes (chunk b i) := fun x hx => h x (List.mem_of_mem_drop (List.mem_of_mem_take hx))
/-- What holds of every row so far. -/
theorem rowsN_ok (b : List Int) : ∀ i, (rowsN b i).length ≤ i ∧ ∀ y ∈ rowsN b i, 0 ≤ y.f1 ∧ y.f1 ≤ i ∧ y.f2.length ≤ 256 * i
  | 0 => ⟨Nat.le_refl _, fun y hy => absurd hy (by simp [rowsN])⟩
  | i + 1 => by
    obtain ⟨hl, ih⟩ := rowsN_ok b i
    have hc := chunk_le b i
    have hx : (if kindN b i = 1 then chunk b i else []).length ≤ 256 := by split <;> simp [hc]
    unfold rowsN
    rcases snoc_cases (rowsN b i) with h | ⟨xs, y, h⟩
    · rw [h, stepR_nil]
      refine ⟨by simp, fun z hz => ?_⟩
      rw [List.mem_singleton] at hz
      subst hz
      simp only
      omega
    · rw [h] at ih hl
      rw [List.length_append, List.length_singleton] at hl
      rw [h, stepR_snoc]
      have hy := ih y (by simp)
      split
      · refine ⟨by simp; omega, fun z hz => ?_⟩
        rcases List.mem_append.mp hz with hz | hz
        · have := ih z (List.mem_append_left _ hz); omega
        · rw [List.mem_singleton] at hz
          subst hz
          simp only [List.length_append]
          omega
      · refine ⟨by simp; omega, fun z hz => ?_⟩
        rcases List.mem_append.mp hz with hz | hz
        · have := ih z hz; omega
        · rw [List.mem_singleton] at hz
          subst hz
          simp only
          omega
theorem Equal_loop (l m : List Int) (he : l.length = m.length) (hl : l.length ≤ 140737488355328) : ∀ (d i k : Nat), i + d = l.length → d < k →
    slices_Equal_byte_byte.l0 k l m (l.length : Int) (i : Int) = some (decide (l.drop i = m.drop i)) := by
  intro d
  induction d with
  | zero =>
    intro i k hi hk
    obtain ⟨k, rfl⟩ : ∃ q, k = q + 1 := ⟨k - 1, by omega⟩
    obtain rfl : i = l.length := by omega
    simp only [slices_Equal_byte_byte.l0]
    rw [if_neg (by omega), List.drop_length, he, List.drop_length, decide_eq_true rfl]
  | succ d ih =>
    intro i k hi hk
    obtain ⟨k, rfl⟩ : ∃ q, k = q + 1 := ⟨k - 1, by omega⟩
    have hil : i < l.length := by omega
    have him : i < m.length := by omega
    simp only [slices_Equal_byte_byte.l0]
    rw [if_pos (by omega), if_pos (by omega), if_pos (by omega), if_pos (by omega), rd_eq l i hil, rd_eq m i him, w64 (by omega) (by omega)]
    have dl := List.drop_eq_getElem_cons hil
    have dm := List.drop_eq_getElem_cons him
    by_cases e : l[i] = m[i]
    · rw [if_pos e, show ((i : Int) + 1) = ((i + 1 : Nat) : Int) by omega, ih (i + 1) k (by omega) (by omega)]
      congr 1
      rw [decide_eq_decide]
      constructor
      · intro h
        rw [dl, dm, h, e]
      · intro h
        rw [dl, dm] at h
        injection h
    · rw [if_neg e]
      congr 1
      rw [eq_comm, decide_eq_false_iff_not]
      intro h
      rw [dl, dm] at h
      injection h with h _
      exact e h
theorem Equal_eq (k : Nat) (l m : List Int) (hl : l.length ≤ 140737488355328) (hk : l.length < k) : slices_Equal_byte_byte.f k l m = some (decide (l = m)) := by
  unfold slices_Equal_byte_byte.f
  by_cases e : l.length = m.length
  · rw [if_pos (by omega)]
    have := Equal_loop l m e hl l.length 0 k (by omega) hk
    simpa using this
  · rw [if_neg (by omega)]
    congr 1
    rw [eq_comm, decide_eq_false_iff_not]
    rintro rfl
    exact e rfl
theorem kind_eq (k : Nat) (x a : List Int) (hb : isBytes x) (hx : x.length ≤ 256) (hk : 256 < k) : image_kind.f k x a = some (kindP x a) := by
  unfold image_kind.f kindP
  rw [Zero_eq k x hb (by omega) (by omega), Option.bind_some]
  by_cases hz : zeroS x = true
  · rw [if_pos hz, if_pos hz]
  rw [if_neg hz, if_neg hz]
  by_cases ha : a = []
  · subst ha
    rw [if_neg (by simp), if_neg (fun h => h.1 rfl)]
  · have hal : 0 < a.length := List.length_pos_iff.mpr ha
    rw [if_pos (by omega), Equal_eq k x a (by omega) (by omega), Option.bind_some]
    by_cases e : x = a
    · rw [if_pos (decide_eq_true e), if_pos ⟨ha, e⟩]
    · rw [if_neg (by rw [decide_eq_true_eq]; exact e), if_neg (fun h => e h.2)]
end Go.Proofs.Ytnlneiiccoakjaa.P
