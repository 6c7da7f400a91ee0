/-
A law's argument that is a row of the document's rows (a struct of two numbers and a string), opened: what its cells hold, and how large its strings are.
Conditions: none.
-/
import Derived.Test.YtnlneiiccoakjaaHandImgGiven
import Derived.OpenShut
import Derived.ChangeOld
import Derived.ChangeArms
import Derived.DataReads
import Derived.SizedLaws
namespace Go.Proofs.Ytnlneiiccoakjaa.P
open Go.RowKit Go.Proofs.YtnlneiiccoakjaaW.PrintWords Go.Proofs.YtnlneiiccoakjaaW.PrintLast Go.Proofs.YtnlneiiccoakjaaW.PrintMore
attribute [local go_sem] max2_int min2_int max_two min_two max_three min_three max_four min_four
set_option linter.unusedVariables false
set_option linter.unusedSimpArgs false
open Go.ChangeShapes Go.WideShapes
theorem list_of54 {P : Nat → S54 → Prop} : ∀ n, (∀ i, i < n → ∃ q, P i q) → ∃ l : List S54, l.length = n ∧ ∀ (i : Nat) (h : i < l.length), P i l[i]
  | 0, _ => ⟨[], rfl, fun i h => absurd h (Nat.not_lt_zero i)⟩
  | n + 1, h => by
    obtain ⟨l, hl, hp⟩ := list_of54 n (fun i hi => h i (by omega))
    obtain ⟨q, hq⟩ := h n (by omega)
    refine ⟨l ++ [q], by simp [hl], fun i hi => ?_⟩
    by_cases hin : i < l.length
    · rw [List.getElem_append_left hin]; exact hp i hin
    · have e : i = n := by rw [List.length_append] at hi; simp at hi; omega
      subst e
      subst hl
      rw [List.getElem_append_right (Nat.le_refl _)]
      simpa using hq
theorem cells54 : Try.prog.cellsOf 54 = 3 := by kernel_rfl
theorem cells54i : Try.prog.cellsOf 3 = 1 := by kernel_rfl
theorem cells54s : Try.prog.cellsOf 9 = 1 := by kernel_rfl
set_option maxRecDepth 100000 in
theorem open_refrow {H : Type} {enc : TypeId × Value → H} {W : World} {base : Nat} {spare : Nat → Bool} {held : Bool} {n : Nat} {c0 c1 c2 : Value} {y : DataW H × List MemPlace} (hf : DataW.trod enc Try.prog W base spare held n 54 [c0, c1, c2] = some y) :
    ∃ (k m : Int) (b : ByteArray), c0 = .int .i64 k ∧ c1 = .int .i64 m ∧ c2 = .string b ∧ b.data.toList.length ∈ y.1.weights Try.prog 54 := by
  obtain ⟨ys, m, _, hy, _, l, f⟩ := DataW.trod_struct Try.underlying54 hf
  have g_0 : DataW.trod enc Try.prog W base spare held m 3 (List.take (Try.prog.cellsOf 3) (List.drop 0 [c0, c1, c2])) = ys[0]? := f 0 _ rfl
  have g_1 : DataW.trod enc Try.prog W base spare held m 3 (List.take (Try.prog.cellsOf 3) (List.drop 1 [c0, c1, c2])) = ys[1]? := f 1 _ rfl
  have g_2 : DataW.trod enc Try.prog W base spare held m 9 (List.take (Try.prog.cellsOf 9) (List.drop 2 [c0, c1, c2])) = ys[2]? := f 2 _ rfl
  rw [cells54i] at g_0 g_1
  rw [cells54s] at g_2
  have l3 : ys.length = 3 := l
  match ys, l3 with
  | [y0, y1, y2], _ =>
    replace g_0 : DataW.trod enc Try.prog W base spare held m 3 [c0] = some y0 := g_0
    replace g_1 : DataW.trod enc Try.prog W base spare held m 3 [c1] = some y1 := g_1
    replace g_2 : DataW.trod enc Try.prog W base spare held m 9 [c2] = some y2 := g_2
    obtain ⟨x0, e_0, d_0, _⟩ := DataW.trod_int Try.underlying3 g_0
    simp only [List.cons.injEq, and_true] at e_0
    obtain ⟨x1, e_1, d_1, _⟩ := DataW.trod_int Try.underlying3 g_1
    simp only [List.cons.injEq, and_true] at e_1
    obtain ⟨x2, e_2, d_2, _⟩ := DataW.trod_string Try.underlying9 g_2
    simp only [List.cons.injEq, and_true] at e_2
    refine ⟨x0, x1, x2, e_0, e_1, e_2, ?_⟩
    subst hy
    subst d_0
    subst d_1
    subst d_2
    simp [DataW.weights, DataW.weightsEach, Try.underlying54]
theorem weights_all {H : Type} {P : Program} {e : TypeId} : ∀ {l : List (DataW H)} {d : DataW H}, d ∈ l → ∀ n ∈ d.weights P e, n ∈ DataW.weightsAll P e l
  | d' :: r, d, hd, n, hn => by
    simp only [DataW.weightsAll, List.mem_append]
    rcases List.mem_cons.mp hd with rfl | hd
    · exact .inl hn
    · exact .inr (weights_all hd n hn)
theorem open_refrows {H : Type} {enc : TypeId × Value → H} {W : World} {base : Nat} {spare : Nat → Bool} {held : Bool} {fuel : Nat} {cs : List Value} {x : DataW H × List MemPlace} (h : DataW.trod enc Try.prog W base spare held fuel 23 cs = some x) :
    ∃ (A : Option Addr) (cap : Nat) (l : List S54), cs = [.slice A l.length cap] ∧ l.length ≤ cap ∧ Kd.C k54 W A l.length l ∧ ∀ y ∈ l, y.f2.data.toList.length ∈ x.1.weights Try.prog 23 := by
  rcases DataW.trod_slice Try.underlying23 h with ⟨rfl, _⟩ | ⟨a, len, cap, elems, rest, n, _, rfl, hx, hb, hl, hm, hlen, hel, _, _⟩
  · exact ⟨none, 0, [], rfl, Nat.le_refl _, ⟨rfl, Nat.zero_le _, fun h => absurd h (by decide)⟩, fun y hy => absurd hy (by simp)⟩
  · obtain ⟨l, hll, hp⟩ := list_of54 (P := fun i q => (W.cell? ((a.add (i * 3)).add 0) = some (.int .i64 q.f0) ∧ W.cell? ((a.add (i * 3)).add 1) = some (.int .i64 q.f1) ∧ W.cell? ((a.add (i * 3)).add 2) = some (.string q.f2)) ∧ ∃ e, e ∈ elems ∧ q.f2.data.toList.length ∈ e.1.weights Try.prog 54) len (fun i hi => by
      have e := hel i hi
      rw [cells54, List.getElem?_eq_getElem (by rw [hlen]; exact hi), Option.bind_eq_some_iff] at e
      obtain ⟨cs', h1, h2⟩ := e
      obtain ⟨_, h4, h5⟩ := World.cells?_some h1
      match cs', h4 with
      | [c0, c1, c2], _ =>
        obtain ⟨k, m, b, rfl, rfl, rfl, hw⟩ := open_refrow h2
        exact ⟨⟨k, m, b⟩, ⟨h5 0 (by decide), h5 1 (by decide), h5 2 (by decide)⟩, _, List.getElem_mem _, hw⟩)
    subst hll
    refine ⟨some a, cap, l, rfl, hl, ⟨rfl, by unfold maxLen at hm; omega, fun _ => ⟨a, rfl, fun j p hj => ?_⟩⟩, fun y hy => ?_⟩
    · obtain ⟨hjl, rfl⟩ := List.getElem?_eq_some_iff.mp hj
      refine ⟨_, rfl, k54_mk W l[j], fun i u hu => ?_⟩
      obtain ⟨⟨x0, x1, x2⟩, _⟩ := hp j hjl
      match i, hu with
      | 0, hu => rw [← Option.some.inj (show some (Value.int .i64 l[j].f0) = some u from hu)]; exact x0
      | 1, hu => rw [← Option.some.inj (show some (Value.int .i64 l[j].f1) = some u from hu)]; exact (by rw [Addr.add_add] at x1; exact x1)
      | 2, hu => rw [← Option.some.inj (show some (Value.string l[j].f2) = some u from hu)]; exact (by rw [Addr.add_add] at x2; exact x2)
      | i + 3, hu => cases hu
    · obtain ⟨i, hi, rfl⟩ := List.mem_iff_getElem.mp hy
      obtain ⟨_, e, he, hw⟩ := hp i hi
      rw [hx]
      simp only [DataW.weights, Try.underlying23]
      exact List.mem_cons_of_mem _ (List.mem_append_left _ (weights_all (List.mem_map_of_mem he) _ hw))
end Go.Proofs.Ytnlneiiccoakjaa.P
