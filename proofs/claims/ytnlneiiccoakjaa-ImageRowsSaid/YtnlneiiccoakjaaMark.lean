/-
A row of a constant text's bytes: marked behind its last cell by the conversion; what is appended to it goes into a new row.
Conditions: none.
-/
import Derived.Test.YtnlneiiccoakjaaProg
import Derived.Below
import Derived.Deep.Draws
import Derived.Deep.AppendLies
import Derived.Maps.AppendAt
import Derived.OwnWalk
import Derived.Laws.BytesArg
import Derived.Laws.MakeOwn
import Derived.Laws.OwnMore
import Derived.Deep.OwnRows
import Derived.Tactics
import Derived.Lib.ConvBytes
import Derived.Laws.Slices
import Derived.WalkKit
import Derived.KernelRfl
import Derived.RowKit3
import Derived.Deep.LoopGhost
import Derived.Deep.QuietTactic
import Derived.BigQuiet
import Derived.WideLaws
import Derived.Deep.DeepCutAuto
import Derived.Deep.CutBlock
import Derived.Deep.RegionHeld3
import Derived.Laws.Rows
import Derived.Lib.AppendStr
import Derived.ArgAppend
import Derived.Laws.IdiomCopy
import Derived.OrdersHeld
import Derived.Laws.BitsLemmas
import Derived.RowKit
import Derived.Test.YtnlneiiccoakjaaWWords
import Derived.Lib.SlBytesConst
namespace Go.Proofs.Ytnlneiiccoakjaa.P
open Go.RowKit Go.Proofs.YtnlneiiccoakjaaW.PrintWords Go.Proofs.YtnlneiiccoakjaaW.PrintLast Go.Proofs.YtnlneiiccoakjaaW.PrintMore
attribute [local go_sem] max2_int min2_int max_two min_two max_three min_three max_four min_four
set_option linter.unusedVariables false
set_option linter.unusedSimpArgs false
/-- The marked row. -/
def TM.R (_d : Kd Int) (e : Nat) (w : World) (base : Nat) (ok : Nat → Prop) (v : Value) (xs : List Int) : Prop :=
  (∀ k, v.ownBlock = some k → ok k) ∧ ∃ g, v = .slice (some ⟨g, 0, none⟩) xs.length xs.length ∧ base ≤ g ∧ w.heap[g]? = some (.cells (nums .u8 xs).toArray e (xs.length, xs.length + 1))
namespace TM
variable {d : Kd Int} {e base : Nat} {ok ok' : Nat → Prop} {w w1 W : World} {u v : Value} {xs : List Int}
theorem R_lt (h : TM.R d e w base ok v xs) : ∀ k, v.ownBlock = some k → k < w.heap.size := by
  obtain ⟨_, g, rfl, _, hg⟩ := h
  intro k hk
  obtain rfl : g = k := by simpa [Value.ownBlock] using hk
  exact blk_lt hg
theorem R_base (h : TM.R d e w base ok v xs) : ∀ k, v.ownBlock = some k → base ≤ k := by
  obtain ⟨_, g, rfl, hb, _⟩ := h
  intro k hk
  obtain rfl : g = k := by simpa [Value.ownBlock] using hk
  exact hb
theorem R_below (h : TM.R d e w base ok v xs) (hb : Below w.heap.size w w1) : TM.R d e w1 base ok v xs := by
  obtain ⟨h0, g, h1, h2, h3⟩ := h
  exact ⟨h0, g, h1, h2, blk_below h3 hb⟩
theorem R_alloc (h : TM.R d e w base ok v xs) (o : Obj) : TM.R d e (w.alloc o) base ok v xs := R_below h (below_alloc (Below.refl _ _) o)
theorem R_drew (h : TM.R d e w base ok v xs) : TM.R d e w.drew base ok v xs := R_below h (below_drew (Below.refl _ _))
theorem R_drewN (h : TM.R d e w base ok v xs) (n : Nat) : TM.R d e (w.drewN n) base ok v xs := R_below h (pw_below_drewN (Below.refl _ _) n)
theorem R_mono (h : TM.R d e w base ok v xs) (hok : ∀ k, ok k → ok' k) : TM.R d e w base ok' v xs := ⟨fun k hk => hok k (h.1 k hk), h.2⟩
theorem R_lower {base' : Nat} (h : TM.R d e w base ok v xs) (hb : base' ≤ base) : TM.R d e w base' ok v xs := by
  obtain ⟨h0, g, h1, h2, h3⟩ := h
  exact ⟨h0, g, h1, Nat.le_trans hb h2, h3⟩
theorem R_elder' (hu : TM.R d e W base ok u xs) (hbase : ∀ k, v.ownBlock = some k → W.heap.size ≤ k) (hb : Below W.heap.size W w1) : TM.R d e w1 base (fun k => ok k ∧ some k ≠ v.ownBlock) u xs := by
  have hlt := R_lt hu
  obtain ⟨h0, h1⟩ := R_below hu hb
  refine ⟨fun k hk => ⟨h0 k hk, fun he => ?_⟩, h1⟩
  have h2 := hlt k hk
  have h3 := hbase k he.symm
  omega
theorem R_ne (h : TM.R d e w base ok v xs) {g t : Nat} {cells : Array Value} (hb : w.heap[g]? = some (.cells cells t (0, 0))) (_ht : e ≠ t) : some g ≠ v.ownBlock := by
  obtain ⟨_, g', rfl, _, h3⟩ := h
  intro he
  obtain rfl : g = g' := by simpa [Value.ownBlock] using he
  rw [hb] at h3
  injection h3 with h3
  injection h3 with _ _ h4
  injection h4 with _ h5
  omega
variable {P : Program} {ops : Array Oper} {rest : List Oper} {o o1 o2 : Oper} {a : Act} {Q : Exit → Act → World → Prop}
/-- The literal and its conversion, both at once. -/
theorem R_lit (d : Kd Int) (t e : TypeId) (hg1 : o1.guard = none) (hg2 : o2.guard = none) {N N2 : Tmp} (_hd1 : o1.dst = some N) (_hd2 : o2.dst = some N2) (ho2 : o2.op = .convert t t (.tmp N)) (ht : P.underlying t = some (.slice e)) (he : P.underlying e = some (.int .u8)) {xs : List Int} {inner : List Value} {ok : Nat → Prop} (hin : nums .u8 xs = inner)
    (hrun : (execOp a.eval o1).run P W = .ok (.value (.slice (some ⟨W.heap.size, 0, none⟩) xs.length xs.length)) (W.alloc (.cells inner.toArray e)))
    (hev : ∀ v : Value, (a.put o1.dst v).eval (.tmp N) = v) (hfresh : ok W.heap.size)
    (h : ∀ v1 w1, TM.R d e w1 W.heap.size ok v1 xs → Below W.heap.size W w1 → wpList P ops Q rest ((a.put o1.dst v1).put o2.dst v1) w1) : wpList P ops Q (o1 :: o2 :: rest) a W := by
  subst hin
  refine Kd.event_run hg1 hrun ?_
  refine Kd.event_run hg2 (v := .slice (some ⟨W.heap.size, 0, none⟩) xs.length xs.length) (w1 := W.alloc (.cells (nums .u8 xs).toArray e ((nums .u8 xs).toArray.size, (nums .u8 xs).toArray.size + 1))) ?_ ?_
  · have hc := Lib.run_convert_bytes_const (P := P) W t e (nums .u8 xs).toArray xs.length xs.length ht he
    unfold execOp
    simp only [ho2, hev]
    simp [hc, Result.andThen]
  · refine h _ _ ⟨fun k hk => ?_, W.heap.size, rfl, Nat.le_refl _, ?_⟩ (below_alloc (Below.refl _ _) _)
    · obtain rfl : W.heap.size = k := by simpa [Value.ownBlock] using hk
      exact hfresh
    · rw [blk_new]
      simp [nums]
/-- An append to it: in a new row, if there is anything to append. -/
theorem R_append_rows (d : Kd Int) {w0 W : World} (base : Nat) (hgd : o.guard = none) (s x : Operand) (t e : TypeId) (z : Value) (bytes : Nat)
    (ho : o.op = .call { callee := .builtin .append, args := #[s, x], argTypes := #[t, t] })
    (ht : P.underlying t = some (.slice e)) (hinfo : (P.info? e).map (fun i => (i.zero, i.size, i.bytes)) = some (some z, 1, bytes)) (hz : z.cells.size = 1) (_hs0 : 0 < 1) (_hb0 : 0 < bytes)
    (v : Value) (xs ys : List Int) (A : Option Addr) (m c : Nat) (ok okp : Nat → Prop) (hs : a.eval s = v) (hx : a.eval x = .slice A m c)
    (HO : TM.R d e W base ok v xs) (HR : Kd.C (Kd.int .u8) W A m ys) (_hKM : ∀ (_x : Int) (_cs : List Value), True → True) (_hokp : ∀ k, okp k → ok k ∧ some k ≠ v.ownBlock) (hfresh : ∀ k, W.heap.size ≤ k → ok k)
    (HB : Below base w0 W) (hbase : base ≤ W.heap.size) (hl : (xs.length + m) * bytes ≤ 140737488355328) (hN : 0 < ys.length) (hby : bytes = 1)
    (h : ∀ v1 w1, Kd.R (Kd.int .u8) e w1 base ok v1 (xs ++ ys) → Below base w0 w1 → W.grownBy w1 v.ownBlock → (v1.ownBlock = v.ownBlock ∨ ∃ b, v1.ownBlock = some b ∧ W.heap.size ≤ b) → wpList P ops Q rest (a.put o.dst v1) w1) :
    wpList P ops Q (o :: rest) a W := by
  subst hby
  obtain ⟨i0, hi, hzz⟩ := Option.map_eq_some_iff.1 hinfo
  obtain ⟨h3, h4⟩ := Prod.mk.inj hzz
  obtain ⟨h4, h5⟩ := Prod.mk.inj h4
  have hR := Kd.reads_of_C (d := (0 : Int)) HR
  obtain ⟨rfl, hA0, hA⟩ := hR
  obtain ⟨ad, rfl, hcell⟩ := hA hN
  obtain ⟨h0, g, rfl, hbg, hg⟩ := HO
  refine wpList_append_grows W hgd s x t ho e i0 z 1 1 ht hi h3 h4 h5 hz (by decide) (some ⟨g, 0, none⟩) xs.length xs.length (nums .u8 xs) hs (by intro h; cases h) (by rw [nums_length, Nat.mul_one]) ?_ ad ys.length c (nums .u8 ys) hx (by rw [nums_length, Nat.mul_one]) ?_ ?_ (by omega) (by unfold maxLen; omega) hl ?_
  · intro b hb j u hj
    injection hb with hb
    subst hb
    rw [add_plain, cell_of_row W g j _ e _ hg]
    simpa using hj
  · intro j u hj
    have hlt : j < ys.length := by
      have := (List.getElem?_eq_some_iff.1 hj).1
      rwa [nums_length] at this
    have h6 := hcell j hlt
    rw [h6, ← hj]
    simp [nums, List.getD_eq_getElem?_getD, List.getElem?_eq_getElem hlt]
  · intro u hu
    obtain ⟨q, _, rfl⟩ := List.mem_map.mp hu
    rfl
  · intro v' w' hown hgr
    have hne : ∀ k, v'.ownBlock = some k → W.heap.size ≤ k := own_base hown
    have hR : Kd.R (Kd.int .u8) e w' base ok v' (xs ++ ys) := Kd.R_of_own (enc := Value.int .u8) (h1 := fun _ => rfl) (by rw [List.length_append]; have h7 := own_weaken hown hbase; rwa [← nums_append] at h7) (fun k hk => hfresh k (hne k hk))
    refine h v' w' hR (HB.grown hgr hbase (fun k hk => by cases hk)) ⟨hgr.os, hgr.tape, hgr.output, hgr.size, fun k hk _ => hgr.block k hk (by intro hc; cases hc)⟩ (Or.inr ?_)
    have hne2 : 0 < xs.length + ys.length := by omega
    rcases hown.2 with ⟨_, h7⟩ | ⟨b, cap, cur, h7, h8, _⟩
    · omega
    · exact ⟨b, by rw [h7]; rfl, h8⟩
end TM
end Go.Proofs.Ytnlneiiccoakjaa.P
