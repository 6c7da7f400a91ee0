/-
group.use, UseBlock, UseSlot, walked by hand.
Conditions: none.
-/
import Derived.Test.YtonkgfgciegknaaHandGroup4
namespace Go.Proofs.Ytonkgfgciegknaa.P
open Go.RowKit Go.Proofs.YtonkgfgciegknaaW.PrintWords Go.Proofs.YtonkgfgciegknaaW.PrintLast Go.Proofs.YtonkgfgciegknaaW.PrintMore
attribute [local go_sem] max2_int min2_int max_two min_two max_three min_three max_four min_four
set_option linter.unusedVariables false
set_option linter.unusedSimpArgs false
theorem setRow_grown (w : World) (g : Nat) (cs : Array Value) : w.grownBy (w.setRow g cs) (some g) :=
  ⟨rfl, rfl, rfl, by simp [World.setRow], fun k _ hk => setRow_other w g k cs (fun e => hk (by rw [e]))⟩
/-- A copy into a block, whatever lies beside. -/
theorem copy_ev {w : World} {ops : Array Oper} {rest : List Oper} {o : Oper} {a : Act} {Q : Exit → Act → World → Prop} (hgd : o.guard = none) (d s : Operand) (dT sT : TypeId)
    (ho : o.op = .call { callee := .builtin .copy, args := #[d, s], argTypes := #[dT, sT] }) (hu : Try.prog.underlying dT = some (.slice 5))
    (g off dLen dCap : Nat) (A : Option Addr) (sLen sCap : Nat) (hd : a.eval d = .slice (some ⟨g, off, none⟩) dLen dCap) (hs : a.eval s = .slice A sLen sCap)
    (cur : List Value) (t : TypeId) (hg : w.heap[g]? = some (.cells cur.toArray t (0, 0))) (l : List Int) (hl : l.length = sLen) (hC : Kd.C (Kd.int .u8) w A l.length l) (m : Nat) (hm : m = Nat.min sLen dLen) (hp : 0 < m) (hfit : off + m ≤ cur.length)
    (h : ∀ w', w'.heap[g]? = some (.cells (splice cur off (nums .u8 (l.take m))).toArray t (0, 0)) → (∀ k, k ≠ g → w'.heap[k]? = w.heap[k]?) → w.grownBy w' (some g) → wpList Try.prog ops Q rest (a.put o.dst (goInt m)) w') :
    wpList Try.prog ops Q (o :: rest) a w := by
  have hsz : (Try.prog.info? 5).map (·.size) = some 1 := by kernel_rfl
  have hml : m ≤ l.length := by rw [hl, hm]; exact Nat.min_le_left _ _
  have hcl : (nums .u8 (l.take m)).length = m := by rw [nums_length, List.length_take]; omega
  obtain ⟨ad, rfl, hcells⟩ := reads_cells (Kd.reads_of_C (d := (0 : Int)) hC) m (by omega) hp
  refine wpList_copy_own hgd d s dT sT ho 5 hu hsz g off dLen dCap ad sLen sCap hd hs cur.toArray t hg (nums .u8 (l.take m)) (by rw [hcl, hm]) hcells (by rw [hcl]; simpa using hfit) (nums_one _ _) ?_
  rw [hcl]
  refine h _ ?_ (fun k hk => setRow_other w g k _ hk) (setRow_grown _ _ _)
  have h2 := setRow_heap w g cur.toArray (cur.take off ++ ((nums .u8 (l.take m)) ++ cur.drop (off + m))).toArray t (0, 0) hg
  rw [splice, hcl]
  exact h2
theorem splice_bl {no : Int} {bl sl l : List Int} (hb : bl.length = 16) (hl : l.length = 16) : splice (headC no bl sl) 1 (nums .u8 l) = headC no l sl := by
  simp only [splice, headC, nums_length, hl, List.take_succ_cons, List.take_zero, List.drop_succ_cons, Nat.reduceAdd]
  rw [List.drop_append_of_le_length (by rw [nums_length, hb]; exact Nat.le_refl _), List.drop_of_length_le (by rw [nums_length, hb]; exact Nat.le_refl _)]
  rfl
theorem splice_sl {no : Int} {bl sl l : List Int} (hb : bl.length = 16) (hs : sl.length = 8) (hl : l.length = 8) : splice (headC no bl sl) 17 (nums .u8 l) = headC no bl l := by
  simp only [splice, headC, nums_length, hl, Nat.reduceAdd]
  rw [List.take_succ_cons, List.take_append_of_le_length (by rw [nums_length, hb]; exact Nat.le_refl _), List.take_of_length_le (by rw [nums_length, hb]; exact Nat.le_refl _), List.drop_of_length_le (by simp [nums_length, hb, hs]), List.append_nil]
  rfl
end Go.Proofs.Ytonkgfgciegknaa.P