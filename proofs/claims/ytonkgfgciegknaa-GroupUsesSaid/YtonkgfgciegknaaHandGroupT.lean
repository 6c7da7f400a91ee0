/-
leveelaw06.taken and same, walked by hand.
Conditions: none.
-/
import Derived.Test.YtonkgfgciegknaaHandGroup9
namespace Go.Proofs.Ytonkgfgciegknaa.P
open Go.RowKit Go.Proofs.YtonkgfgciegknaaW.PrintWords Go.Proofs.YtonkgfgciegknaaW.PrintLast Go.Proofs.YtonkgfgciegknaaW.PrintMore
attribute [local go_sem] max2_int min2_int max_two min_two max_three min_three max_four min_four
set_option linter.unusedVariables false
set_option linter.unusedSimpArgs false
theorem HeadAt.alloc {w : World} {g : Nat} {no : Int} {bl sl : List Int} (h : HeadAt w g no bl sl) (o : Obj) : HeadAt (w.alloc o) g no bl sl := blk_alloc h o
theorem HeadAt.rows {w w1 : World} {g : Nat} {no : Int} {bl sl : List Int} {row : Option Nat} (h : HeadAt w g no bl sl) (hg : w.grownBy w1 row) (hn : some g ≠ row) : HeadAt w1 g no bl sl := blk_grown h hg hn
theorem HeadAt.set {w : World} {g : Nat} {no : Int} {bl sl : List Int} (h : HeadAt w g no bl sl) {p : Addr} (hp : g ≠ p.block) (u : Value) : HeadAt (w.setCell p u) g no bl sl := blk_far h hp u
theorem Row8.rows {w w1 : World} {v : Value} {l : List Int} {row : Option Nat} (h : Row8 w v l) (hg : w.grownBy w1 row) (hn : ∀ k, v.ownBlock = some k → row ≠ some k) : Row8 w1 v l := by
  obtain ⟨h0, h1 | ⟨g, cap, cur, e, h2, h3, h4⟩⟩ := h
  · exact ⟨h0, .inl h1⟩
  · exact ⟨h0, .inr ⟨g, cap, cur, e, h2, blk_grown h3 hg (fun q => hn g (by rw [e]; rfl) q.symm), h4⟩⟩
theorem Row8.own_lt {w : World} {v : Value} {l : List Int} (h : Row8 w v l) : ∀ k, w.heap.size ≤ k → some k ≠ v.ownBlock := by
  obtain ⟨h0, ⟨e, _⟩ | ⟨g, cap, cur, e, h2, h3, h4⟩⟩ := h
  · intro k _ q; rw [e] at q; cases q
  · intro k hk q
    rw [e] at q
    injection q with q
    have q' : k = g := q
    have := blk_lt h3
    omega
end Go.Proofs.Ytonkgfgciegknaa.P