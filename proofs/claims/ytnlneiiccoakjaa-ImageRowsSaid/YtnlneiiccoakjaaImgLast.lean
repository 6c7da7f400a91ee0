/-
A row of image.Row that a call builds, whose last element's bytes are its own alone: what appends and stores make of it.
Conditions: none.
-/
import Derived.Test.YtnlneiiccoakjaaImgPlain
import Derived.Test.YtnlneiiccoakjaaHand
namespace Go.Proofs.Ytnlneiiccoakjaa.P
open Go.RowKit Go.Proofs.YtnlneiiccoakjaaW.PrintWords Go.Proofs.YtnlneiiccoakjaaW.PrintLast Go.Proofs.YtnlneiiccoakjaaW.PrintMore
attribute [local go_sem] max2_int min2_int max_two min_two max_three min_three max_four min_four
set_option linter.unusedVariables false
set_option linter.unusedSimpArgs false
theorem infoRow : (Try.prog.info? 41).map (fun i => (i.zero, i.size, i.bytes)) = some (some (.agg #[(.int .i64 0), (.int .i64 0), (.slice none 0 0)]), 3, 40) := by kernel_rfl
/-- The row's block is g, its last element y, whose bytes are the row v2. -/
structure Last (w : World) (base g cap : Nat) (xs : List S41) (y : S41) (v2 : Value) (inner : List Value) : Prop where
  own : w.ownsRow base 41 3 (.slice (some ⟨g, 0, none⟩) (xs.length + 1) cap) (xs.length + 1) (inner ++ [.int .i64 y.f0, .int .i64 y.f1, v2])
  reps : Reps (k41.M w base (fun k => k ≠ g ∧ some k ≠ v2.ownBlock)) 3 xs inner
  dat : (Kd.int .u8).R 5 w base (fun k => k ≠ g) v2 y.f2
/-- A row whose elements are told one by one. -/
def Raw (w : World) (base : Nat) (v : Value) (l : List S41) (inner : List Value) : Prop :=
  w.ownsRow base 41 3 v l.length inner ∧ Reps (k41.M w base (fun k => some k ≠ v.ownBlock)) 3 l inner
section
variable {w w1 : World} {base g cap : Nat} {xs : List S41} {y : S41} {v2 : Value} {inner : List Value}
theorem Last.ilen (h : Last w base g cap xs y v2 inner) : inner.length = xs.length * 3 := h.reps.1
theorem Last.cell (h : Last w base g cap xs y v2 inner) (j : Nat) (hj : j < 3) : w.cell? ⟨g, xs.length * 3 + j, none⟩ = [Value.int .i64 y.f0, .int .i64 y.f1, v2][j]? := by
  rw [h.own.cellAt _ (by omega), List.getElem?_append_right (by rw [h.ilen]; omega), h.ilen, Nat.add_sub_cancel_left]
theorem Last.cell0 (h : Last w base g cap xs y v2 inner) : w.cell? ⟨g, xs.length * 3, none⟩ = some (.int .i64 y.f0) := h.cell 0 (by decide)
theorem Last.cell1 (h : Last w base g cap xs y v2 inner) : w.cell? ⟨g, xs.length * 3 + 1, none⟩ = some (.int .i64 y.f1) := h.cell 1 (by decide)
theorem Last.cell2 (h : Last w base g cap xs y v2 inner) : w.cell? ⟨g, xs.length * 3 + 2, none⟩ = some v2 := h.cell 2 (by decide)
theorem Last.frozen (h : Last w base g cap xs y v2 inner) (j : Nat) : w.frozen? ⟨g, j, none⟩ = false := h.own.frozenAt j
theorem Last.ge (h : Last w base g cap xs y v2 inner) : base ≤ g := own_base h.own g rfl
theorem Last.lt (h : Last w base g cap xs y v2 inner) : g < w.heap.size := own_lt h.own g rfl
theorem Last.below (h : Last w base g cap xs y v2 inner) (hb : Below w.heap.size w w1) : Last w1 base g cap xs y v2 inner :=
  ⟨pw_own_below h.own hb, h.reps.imp_ (fun _ _ k => Kd.M_below k hb), Kd.R_below h.dat hb⟩
theorem set_mid {l : List Value} {a b c u : Value} {n : Nat} (h : l.length = n) : (l ++ [a, b, c]).set (n + 1) u = l ++ [a, u, c] := by
  subst h
  rw [List.set_append_right _ _ (by omega), Nat.add_sub_cancel_left]
  rfl
theorem set_end {l : List Value} {a b c u : Value} {n : Nat} (h : l.length = n) : (l ++ [a, b, c]).set (n + 2) u = l ++ [a, b, u] := by
  subst h
  rw [List.set_append_right _ _ (by omega), Nat.add_sub_cancel_left]
  rfl
theorem own_end {v : Value} {n : Nat} (h : w.ownsRow base 41 3 (.slice (some ⟨g, 0, none⟩) (n + 1) cap) (n + 1) (inner ++ [.int .i64 y.f0, .int .i64 y.f1, v])) (hi : inner.length = n * 3) : w.cell? ⟨g, n * 3 + 2, none⟩ = some v := by
  rw [h.cellAt _ (by omega), List.getElem?_append_right (by omega), hi, Nat.add_sub_cancel_left]
  rfl
/-- Another count. -/
theorem Last.count (h : Last w base g cap xs y v2 inner) (c : Int) : Last (w.setCell ⟨g, xs.length * 3 + 1, none⟩ (.int .i64 c)) base g cap xs ⟨y.f0, c, y.f2⟩ v2 inner := by
  refine ⟨?_, h.reps.imp_ (fun _ _ k => Kd.M_far (p := ⟨g, xs.length * 3 + 1, none⟩) k (fun _ hk => hk.1) _), Kd.R_far (p := ⟨g, xs.length * 3 + 1, none⟩) h.dat (fun _ hk => hk) _⟩
  have := (h.own.stored (xs.length * 3 + 1) (.int .i64 c)).1
  rw [set_mid h.ilen] at this
  exact this
/-- Other bytes, appended and not stored yet. -/
theorem Last.grown (h : Last w base g cap xs y v2 inner) {v3 : Value} {z : List Int} (hr : (Kd.int .u8).R 5 w1 base (fun k => k ≠ g) v3 z) (hg : w.grownBy w1 v2.ownBlock) (hat : v3.ownBlock = v2.ownBlock ∨ ∃ b, v3.ownBlock = some b ∧ w.heap.size ≤ b) :
    w1.ownsRow base 41 3 (.slice (some ⟨g, 0, none⟩) (xs.length + 1) cap) (xs.length + 1) (inner ++ [.int .i64 y.f0, .int .i64 y.f1, v2]) ∧ Last (w1.setCell ⟨g, xs.length * 3 + 2, none⟩ v3) base g cap xs ⟨y.f0, y.f1, z⟩ v3 inner := by
  have own1 : w1.ownsRow base 41 3 (.slice (some ⟨g, 0, none⟩) (xs.length + 1) cap) (xs.length + 1) (inner ++ [.int .i64 y.f0, .int .i64 y.f1, v2]) :=
    own_other h.own hg (.inr (fun e => h.dat.1 g e.symm rfl))
  refine ⟨own1, ?_, ?_, Kd.R_far (p := ⟨g, xs.length * 3 + 2, none⟩) hr (fun _ hk => hk) _⟩
  · have := (own1.stored (xs.length * 3 + 2) v3).1
    rw [set_end h.ilen] at this
    exact this
  · refine h.reps.imp_ (fun _ _ k => Kd.M_far (p := ⟨g, xs.length * 3 + 2, none⟩) ?_ (fun _ hk => hk.1) _)
    have k1 := Kd.M_grown (k41.M_bound k) hg (fun _ hk => hk.1.2)
    refine k41.M_mono (fun q hq => ⟨hq.1.1, ?_⟩) k1
    rcases hat with e | ⟨b, e, hb⟩
    · rw [e]; exact hq.1.2
    · rw [e]
      intro e2
      injection e2 with e2
      have := hq.2.2.1
      omega
/-- A new element, appended. -/
theorem Raw.new {v v1 : Value} {l : List S41} {k : Int} (h : Raw w base v l inner) (ho : w1.ownsRow base 41 3 v1 (l.length + 1) (inner ++ [.int .i64 k, .int .i64 0, .slice none 0 0])) (hg : w.grownBy w1 v.ownBlock) (hat : v1.ownBlock = v.ownBlock ∨ ∃ b, v1.ownBlock = some b ∧ w.heap.size ≤ b) :
    ∃ g cap, v1 = .slice (some ⟨g, 0, none⟩) (l.length + 1) cap ∧ Last w1 base g cap l ⟨k, 0, []⟩ (.slice none 0 0) inner := by
  obtain ⟨g, cap, rfl, hge, hlt⟩ := ho.form (by omega)
  refine ⟨g, cap, rfl, ho, h.2.imp_ (fun _ _ q => ?_), Kd.R_nil _ _ _ _ _⟩
  have q1 := Kd.M_grown (k41.M_bound q) hg (fun _ hk => hk.1)
  refine k41.M_mono (fun z hz => ⟨?_, by simp [Value.ownBlock]⟩) q1
  rcases hat with e | ⟨b, e, hb⟩
  · intro ez
    subst ez
    exact hz.1 e
  · intro ez
    subst ez
    have e2 : z = b := by simpa [Value.ownBlock] using e
    have := hz.2.2.1
    omega
theorem Last.raw (h : Last w base g cap xs y v2 inner) : Raw w base (.slice (some ⟨g, 0, none⟩) (xs.length + 1) cap) (xs ++ [y]) (inner ++ [.int .i64 y.f0, .int .i64 y.f1, v2]) := by
  have hne : ∀ k, k ≠ g → some k ≠ (Value.slice (some ⟨g, 0, none⟩) (xs.length + 1) cap).ownBlock := fun k hk e => hk (by simpa [Value.ownBlock] using e)
  refine ⟨by rw [List.length_append, List.length_singleton]; exact h.own, Reps.snoc (h.reps.imp_ (fun _ _ k => k41.M_mono (fun q hq => hne q hq.1) k)) ?_ rfl⟩
  exact k41_mkM _ _ _ y (Kd.R_mono h.dat hne)
theorem Raw.nil (w : World) (base : Nat) : Raw w base (.slice none 0 0) [] [] := ⟨own_nil _ _ _ _, Reps.none _ _⟩
theorem Raw.R {v : Value} {l : List S41} (h : Raw w base v l inner) : Kd.R k41 41 w base (fun _ => True) v l :=
  ⟨fun _ _ => trivial, inner, h.1, h.2.imp_ (fun _ _ k => k41.M_mono (fun _ hq => ⟨trivial, hq⟩) k)⟩
end
/-- The row so far: empty, or one whose last element is open. -/
def RowsAt (w : World) (base : Nat) (v : Value) (l : List S41) : Prop :=
  (l = [] ∧ v = .slice none 0 0) ∨ ∃ xs y v2 inner g cap, l = xs ++ [y] ∧ v = .slice (some ⟨g, 0, none⟩) (xs.length + 1) cap ∧ Last w base g cap xs y v2 inner
theorem RowsAt.R {w : World} {base : Nat} {v : Value} {l : List S41} (h : RowsAt w base v l) : Kd.R k41 41 w base (fun _ => True) v l := by
  rcases h with ⟨rfl, rfl⟩ | ⟨xs, y, v2, inner, g, cap, rfl, rfl, h⟩
  · exact (Raw.nil w base).R
  · exact h.raw.R
theorem RowsAt.below {w w1 : World} {base : Nat} {v : Value} {l : List S41} (h : RowsAt w base v l) (hb : Below w.heap.size w w1) : RowsAt w1 base v l := by
  rcases h with h | ⟨xs, y, v2, inner, g, cap, e, e2, h⟩
  · exact .inl h
  · exact .inr ⟨xs, y, v2, inner, g, cap, e, e2, h.below hb⟩
end Go.Proofs.Ytnlneiiccoakjaa.P
