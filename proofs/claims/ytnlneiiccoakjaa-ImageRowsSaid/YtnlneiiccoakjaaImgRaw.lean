/-
A row of image.Row that a call builds, whose elements' bytes lie in blocks of others: what appends make of it.
Conditions: none.
-/
import Derived.Test.YtnlneiiccoakjaaHandImgBlocks
import Derived.Test.YtnlneiiccoakjaaQuietN
namespace Go.Proofs.Ytnlneiiccoakjaa.P
open Go.RowKit Go.Proofs.YtnlneiiccoakjaaW.PrintWords Go.Proofs.YtnlneiiccoakjaaW.PrintLast Go.Proofs.YtnlneiiccoakjaaW.PrintMore
attribute [local go_sem] max2_int min2_int max_two min_two max_three min_three max_four min_four
set_option linter.unusedVariables false
set_option linter.unusedSimpArgs false
open Go.Proofs.Ytnlneiiccoakjaa.Num
/-- An element whose bytes lie in a block that is there, and is not g. -/
def GK (w : World) (g : Option Nat) (x : S41) (cs : List Value) : Prop :=
  ∃ A c, cs = [.int .i64 x.f0, .int .i64 x.f1, .slice A x.f2.length c] ∧ x.f2.length ≤ c ∧ (0 < x.f2.length → ∃ ad : Addr, A = some ad ∧ ad.block < w.heap.size ∧ some ad.block ≠ g) ∧ (Kd.int .u8).C w A x.f2.length x.f2
theorem C_block {w w1 : World} {A : Option Addr} {xs : List Int} (h : (Kd.int .u8).C w A xs.length xs) (hm : ∀ ad, A = some ad → 0 < xs.length → w1.heap[ad.block]? = w.heap[ad.block]?) : (Kd.int .u8).C w1 A xs.length xs := by
  obtain ⟨h1, h2, h3⟩ := Kd.reads_of_C (d := (0 : Int)) h
  refine Kd.C_of_reads (d := (0 : Int)) (h1 := fun _ => rfl) ⟨h1, h2, fun hp => ?_⟩
  obtain ⟨ad, e, hc⟩ := h3 hp
  refine ⟨ad, e, fun j hj => ?_⟩
  rw [← hc j hj]
  exact World.cell?_of_block (by rw [add_block]; exact hm ad e hp)
theorem GK.move {w w1 : World} {g g' : Option Nat} {x : S41} {cs : List Value} (h : GK w g x cs) (hm : ∀ k, k < w.heap.size → some k ≠ g → w1.heap[k]? = w.heap[k]?) (hs : w.heap.size ≤ w1.heap.size) (hg : ∀ k, k < w.heap.size → some k ≠ g → some k ≠ g') : GK w1 g' x cs := by
  obtain ⟨A, c, rfl, hl, hp, hC⟩ := h
  refine ⟨A, c, rfl, hl, fun q => ?_, C_block hC (fun ad e q => ?_)⟩
  · obtain ⟨ad, e, h1, h2⟩ := hp q
    exact ⟨ad, e, by omega, hg _ h1 h2⟩
  · obtain ⟨ad', e', h1, h2⟩ := hp q
    rw [e] at e'
    injection e' with e'
    subst e'
    exact hm _ h1 h2
theorem GK.K {w : World} {g : Option Nat} {x : S41} {cs : List Value} (h : GK w g x cs) : k41.K w x cs := by
  obtain ⟨A, c, rfl, hl, _, hC⟩ := h
  exact k41_mk w x hl hC
def RawG (w : World) (base : Nat) (v : Value) (l : List S41) (inner : List Value) : Prop :=
  w.ownsRow base 41 3 v l.length inner ∧ Reps (GK w v.ownBlock) 3 l inner
section
variable {w w1 : World} {base : Nat} {v v1 : Value} {l : List S41} {inner : List Value}
theorem RawG.nil (w : World) (base : Nat) : RawG w base (.slice none 0 0) [] [] := ⟨own_nil _ _ _ _, Reps.none _ _⟩
theorem RawG.below (h : RawG w base v l inner) (hb : Below w.heap.size w w1) : RawG w1 base v l inner :=
  ⟨pw_own_below h.1 hb, h.2.imp_ (fun _ _ k => k.move (fun q hq _ => hb.block q hq) hb.size (fun _ _ e => e))⟩
theorem RawG.snoc {x : S41} {cs : List Value} (h : RawG w base v l inner) (hk : GK w v.ownBlock x cs) (hc : cs.length = 3) (ho : w1.ownsRow base 41 3 v1 (l.length + 1) (inner ++ cs)) (hg : w.grownBy w1 v.ownBlock) (hat : v1.ownBlock = v.ownBlock ∨ ∃ b, v1.ownBlock = some b ∧ w.heap.size ≤ b) : RawG w1 base v1 (l ++ [x]) (inner ++ cs) := by
  have mv : ∀ (p : S41) (c : List Value), GK w v.ownBlock p c → GK w1 v1.ownBlock p c := fun p c q => q.move (fun k hk hn => hg.block k hk hn) hg.size (fun k hk hn e => by
    rcases hat with e1 | ⟨b, e1, hb⟩
    · exact hn (e.trans e1)
    · rw [e1] at e
      injection e with e
      omega)
  refine ⟨by rw [List.length_append, List.length_singleton]; exact ho, (h.2.imp_ mv).snoc (mv _ _ hk) hc⟩
/-- What is told of it: it can be read. -/
theorem RawG.reads (h : RawG w base v l inner) : ∃ A c, v = .slice A l.length c ∧ l.length ≤ c ∧ Kd.C k41 w A l.length l := by
  obtain ⟨A, c, e, hl, hr⟩ := OwnRow.reads (⟨inner, h.1, h.2.imp_ (fun _ _ k => k.K)⟩ : OwnRow (k41.K w) 41 3 w base v l)
  exact ⟨A, c, e, hl, hr⟩
end
end Go.Proofs.Ytnlneiiccoakjaa.P
