/-
Contracts of functions that the print does not take, proved by hand: sums, cuts, what is laid, what is lent.
Conditions: none.
-/
import Derived.Test.YtonkgfgciegknaaProg
import Derived.Below
import Derived.Deep.Draws
import Derived.Deep.AppendLies
import Derived.Maps.AppendAt
import Derived.OwnWalk
import Derived.Laws.BytesArg
import Derived.Laws.MakeOwn
import Derived.Laws.OwnMore
import Derived.Deep.OwnRows
import Derived.Tactics
import Derived.Lib.ConvBytes
import Derived.Laws.Slices
import Derived.WalkKit
import Derived.KernelRfl
import Derived.RowKit3
import Derived.Deep.LoopGhost
import Derived.Deep.QuietTactic
import Derived.BigQuiet
import Derived.WideLaws
import Derived.Deep.DeepCutAuto
import Derived.Deep.CutBlock
import Derived.Deep.RegionHeld3
import Derived.Laws.Rows
import Derived.Lib.AppendStr
import Derived.ArgAppend
import Derived.Laws.IdiomCopy
import Derived.OrdersHeld
import Derived.Laws.BitsLemmas
import Derived.RowKit
import Derived.Test.YtonkgfgciegknaaWWords
import Derived.Laws.CopyOwn
import Derived.StillTailTactics
import Derived.Test.YtonkgfgciegknaaCrc
namespace Go.Proofs.Ytonkgfgciegknaa.P
open Go.RowKit Go.Proofs.YtonkgfgciegknaaW.PrintWords Go.Proofs.YtonkgfgciegknaaW.PrintLast Go.Proofs.YtonkgfgciegknaaW.PrintMore
attribute [local go_sem] max2_int min2_int max_two min_two max_three min_three max_four min_four
set_option linter.unusedVariables false
set_option linter.unusedSimpArgs false
theorem info5 : (Try.prog.info? 5).map (fun i => (i.zero, i.size, i.bytes)) = some (some (.int .u8 0), 1, 1) := by kernel_rfl
theorem own_of_block {w : World} {g base n : Nat} {cur : List Value} {e : TypeId} {xs : List Value} (h : w.heap[g]? = some (.cells cur.toArray e (0, 0))) (hb : base ≤ g) (hx : xs.length = n) (ht : cur.take n = xs) (hm : cur.length ≤ maxLen) :
    w.ownsRow base e 1 (.slice (some ⟨g, 0, none⟩) n cur.length) n xs := by
  have hl : n ≤ cur.length := by
    have := congrArg List.length ht
    rw [List.length_take, hx] at this
    omega
  exact ⟨by omega, .inr ⟨g, cur.length, cur.toArray, rfl, hb, h, hl, hm, by simp, by simpa using ht⟩⟩
theorem R_of_block {w : World} {g base : Nat} {k : IntKind} {cur : List Value} {e : TypeId} {xs : List Int} {ok : Nat → Prop} (h : w.heap[g]? = some (.cells cur.toArray e (0, 0))) (hb : base ≤ g) (ht : cur.take xs.length = nums k xs) (hm : cur.length ≤ maxLen) (hok : ok g) :
    Kd.R (Kd.int k) e w base ok (.slice (some ⟨g, 0, none⟩) xs.length cur.length) xs :=
  Kd.R_of_own (own_of_block (xs := nums k xs) h hb (nums_length k xs) ht hm) (fun j hj => by
    have : g = j := by simpa [Value.ownBlock] using hj
    subst this; exact hok)
theorem splice_all {α : Type} (L cs : List α) (h : cs.length = L.length) : splice L 0 cs = cs := by
  simp [splice, h]
theorem reads_cells {w : World} {A : Option Addr} {n : Nat} {xs : List Int} {k : IntKind} (h : ReadsOf (Value.int k) 0 w A n xs) (m : Nat) (hm : m ≤ n) (hp : 0 < m) : ∃ ad, A = some ad ∧ ∀ j v, (nums k (xs.take m))[j]? = some v → w.cell? (ad.add j) = some v := by
  obtain ⟨ad, rfl, _⟩ := h.at_ 0 (by omega) (by omega)
  refine ⟨ad, rfl, fun j v hj => ?_⟩
  have hl : j < m := by
    have := (List.getElem?_eq_some_iff.1 hj).1
    simp [nums] at this
    omega
  obtain ⟨ad', e, hc⟩ := h.at_ (j : Int) (by omega) (by omega)
  injection e with e
  subst e
  rw [Int.toNat_natCast] at hc
  rw [hc]
  have hx := h.1
  simp only [nums, List.getElem?_map, List.getElem?_take, if_pos hl] at hj
  rw [List.getElem?_eq_getElem (by omega)] at hj
  simp only [Option.map_some] at hj
  rw [← hj]
  simp [rdOf, List.getD_eq_getElem?_getD, List.getElem?_eq_getElem (show j < xs.length by omega)]
theorem made_eq (m : Nat) : madeCells #[Value.int .u8 0] m = (List.replicate m (Value.int .u8 0)).toArray := by
  apply Array.toList_inj.1
  apply List.ext_getElem
  · simp [madeCells]
  · intro i h1 h2
    simp [madeCells, Nat.mod_one]
/-- What lies behind lent bytes: eight marks, and no more. -/
def tail8 : List Int := [165, 165, 165, 165, 165, 165, 165, 165]
def Tail (w : World) (v : Value) (l : List Int) : Prop := ∃ g, v = .slice (some ⟨g, 0, none⟩) l.length (l.length + 8) ∧ w.heap[g]? = some (.cells (nums .u8 (l ++ tail8)).toArray 5 (0, 0))
/-- Lent bytes: a row of the call's own, and what lies behind it. (The names are those of the print's form Q: it is taken in its place.) -/
def whole : Value → Value
  | .slice A _ c => .slice A c c
  | v => v
def TQ.Q (_d : Kd Int) (e : Nat) (w : World) (base : Nat) (ok : Nat → Prop) (v : Value) (xs : List Int) : Prop :=
  Kd.R (Kd.int .u8) e w base ok v xs ∧ Kd.R (Kd.int .u8) e w base ok (whole v) (xs ++ tail8)
namespace TQ
variable {d : Kd Int} {e base : Nat} {w W w1 : World} {ok ok' : Nat → Prop} {u v : Value} {xs : List Int}
theorem Q_step (h : TQ.Q d e w base ok v xs) (hm : ∀ k, ok k → k < w.heap.size → w1.heap[k]? = w.heap[k]?) : TQ.Q d e w1 base ok v xs := ⟨Kd.R_step h.1 hm, Kd.R_step h.2 hm⟩
theorem Q_below (h : TQ.Q d e w base ok v xs) (hb : Below w.heap.size w w1) : TQ.Q d e w1 base ok v xs := ⟨Kd.R_below h.1 hb, Kd.R_below h.2 hb⟩
theorem Q_drew (h : TQ.Q d e w base ok v xs) : TQ.Q d e w.drew base ok v xs := Q_below h (below_drew (Below.refl _ _))
theorem Q_mono (h : TQ.Q d e w base ok v xs) (hok : ∀ k, ok k → ok' k) : TQ.Q d e w base ok' v xs := ⟨Kd.R_mono h.1 hok, Kd.R_mono h.2 hok⟩
theorem Q_reads' {A : Option Addr} {n c : Nat} (h : TQ.Q d e w base ok (.slice A n c) xs) : n = xs.length ∧ n ≤ c ∧ Kd.C (Kd.int .u8) w A xs.length xs := Kd.R_reads' h.1
end TQ
/-- One bit of a byte, set or not. -/
def bitPut (x m : Int) (on : Bool) : Int := if on = true then Go.bits .or .u8 (Go.bits .andNot .u8 x m) m else Go.bits .andNot .u8 x m
def bits_Set.f (l0 : List Int) (a1 : Int) (a2 : Bool) : Option (List Int × Int) :=
  if l0.length ≤ 140737488355328 then (if 0 ≤ a1 ∧ a1 < 8 * l0.length then some (l0.set (Int.tdiv a1 8).toNat (bitPut (rd l0 (Int.tdiv a1 8)) (shl .u8 1 (Int.tmod a1 8)) a2), 0) else some ([], 3)) else none
theorem there_any (A0 : Option Addr) (c0 n : Nat) (a1 : Int) (w : World) (hn : n ≤ 140737488355328) :
    Calls Try.prog 55 #[.slice A0 n c0, .int .i64 a1] w fun e w' => e = .returned (.bool (decide (0 ≤ a1 ∧ a1 < 8 * n))) ∧ Drawn0 w w' := by
  have hw : IntKind.i64.wrap (8 * (n : Int)) = 8 * (n : Int) := IntWalk.i64_in _ (by omega)
  by_cases c3 : 0 ≤ a1
  · have h3 : decide (0 ≤ a1) = true := decide_eq_true c3
    by_cases c4 : a1 < 8 * (n : Int)
    · have h4 : decide (a1 < 8 * (n : Int)) = true := decide_eq_true c4
      have h5 : decide (0 ≤ a1 ∧ a1 < 8 * (n : Int)) = true := decide_eq_true ⟨c3, c4⟩
      rw [h5]
      clear c3 c4 h5
      go_enter Try.func55, Try.ntmps55
      go_wp2
      go_ret
      exact ⟨by simp [*], by repeat (first | exact Drawn0.refl _ | apply Drawn0.step)⟩
    · have h4 : decide (a1 < 8 * (n : Int)) = false := decide_eq_false c4
      have h5 : decide (0 ≤ a1 ∧ a1 < 8 * (n : Int)) = false := decide_eq_false (fun h => c4 h.2)
      rw [h5]
      clear c3 c4 h5
      go_enter Try.func55, Try.ntmps55
      go_wp2
      go_ret
      exact ⟨by simp [*], by repeat (first | exact Drawn0.refl _ | apply Drawn0.step)⟩
  · have h3 : decide (0 ≤ a1) = false := decide_eq_false c3
    have h5 : decide (0 ≤ a1 ∧ a1 < 8 * (n : Int)) = false := decide_eq_false (fun h => c3 h.1)
    rw [h5]
    clear c3 h5
    go_enter Try.func55, Try.ntmps55
    go_wp2
    go_ret
    exact ⟨by simp [*], by repeat (first | exact Drawn0.refl _ | apply Drawn0.step)⟩
set_option maxRecDepth 100000 in
theorem set_no (A0 : Option Addr) (c0 n : Nat) (a1 : Int) (a2 : Bool) (w : World) (hn : n ≤ 140737488355328) (hno : ¬ (0 ≤ a1 ∧ a1 < 8 * (n : Int))) :
    Calls Try.prog 52 #[.slice A0 n c0, .int .i64 a1, .bool a2] w fun e w' => e = .returned (.tuple #[.slice none 0 0, .int .i64 3]) ∧ Drawn0 w w' := by
  have h5 : decide (0 ≤ a1 ∧ a1 < 8 * (n : Int)) = false := decide_eq_false hno
  clear hno
  go_enter Try.func52, Try.ntmps52
  go_wp2_with (go_at_call 55; (refine (there_any A0 c0 n a1 _ hn).mono ?_); rintro e w' ⟨rfl, ⟨nd, rfl⟩⟩)
  go_ret2
  exact ⟨rfl, by repeat (first | exact Drawn0.refl _ | apply Drawn0.step)⟩
set_option maxRecDepth 100000 in
theorem set_yes (A0 : Option Addr) (c0 : Nat) (l0 : List Int) (a1 : Int) (a2 : Bool) (w : World) (hr0 : Kd.C (Kd.int .u8) w A0 l0.length l0) (hn : l0.length ≤ 140737488355328) (hyes : 0 ≤ a1 ∧ a1 < 8 * (l0.length : Int)) :
    Calls Try.prog 52 #[.slice A0 l0.length c0, .int .i64 a1, .bool a2] w fun e w' => ∃ v0_ : Value, e = .returned (.tuple #[v0_, .int .i64 0]) ∧ Kd.R (Kd.int .u8) 5 w' w.heap.size (fun _ => True) v0_ (l0.set (Int.tdiv a1 8).toNat (bitPut (rd l0 (Int.tdiv a1 8)) (shl .u8 1 (Int.tmod a1 8)) a2)) ∧ Below w.heap.size w w' := by
  obtain ⟨i0, hi, hz0, hz1, hz2⟩ := info_parts info5
  have hsz1 : (Try.prog.info? 5).map (·.size) = some 1 := by rw [hi]; simp [hz1]
  have h5 : decide (0 ≤ a1 ∧ a1 < 8 * (l0.length : Int)) = true := decide_eq_true hyes
  have hdv : Int.tdiv a1 8 = a1 / 8 := Int.tdiv_eq_ediv_of_nonneg hyes.1
  have hmd : Int.tmod a1 8 = a1 % 8 := Int.tmod_eq_emod_of_nonneg hyes.1
  have hw8 : IntKind.i64.wrap (Int.tdiv a1 8) = Int.tdiv a1 8 := IntWalk.i64_in _ (by omega)
  have hq0 : decide (0 ≤ Int.tdiv a1 8) = true := decide_eq_true (by omega)
  have hq1 : decide (Int.tdiv a1 8 < (l0.length : Int)) = true := decide_eq_true (by omega)
  have hm0 : decide (0 ≤ Int.tmod a1 8) = true := decide_eq_true (by omega)
  have hq0' := Aside0.mk (show 0 ≤ Int.tdiv a1 8 by omega)
  have hq1' := Aside0.mk (show Int.tdiv a1 8 < (l0.length : Int) by omega)
  have hpos := Aside0.mk (show 0 < l0.length by omega)
  have hsh : IntKind.u8.wrap (1 * 2 ^ min (Int.tmod a1 8).toNat 8) = shl .u8 1 (Int.tmod a1 8) := rfl
  have hsh2 : IntKind.u8.wrap (2 ^ (Int.tmod a1 8).toNat) = shl .u8 1 (Int.tmod a1 8) := by rw [← hsh, Nat.min_eq_left (by omega), Int.one_mul]
  have hsh3 : IntKind.u8.wrap (2 ^ min (Int.tmod a1 8).toNat 8) = shl .u8 1 (Int.tmod a1 8) := by rw [← hsh, Int.one_mul]
  clear hdv hmd
  obtain ⟨q, hq⟩ : ∃ q, q = Int.tdiv a1 8 := ⟨_, rfl⟩
  obtain ⟨m, hm⟩ : ∃ m, m = Int.tmod a1 8 := ⟨_, rfl⟩
  obtain ⟨b, hb⟩ : ∃ b, b = shl .u8 1 m := ⟨_, rfl⟩
  rw [← hm, ← hb] at hsh hsh2 hsh3
  rw [← hq] at hq0 hq1 hq0' hq1' ⊢
  rw [← hm] at hm0 ⊢
  have hm0p := eq_true (of_decide_eq_true hm0)
  rw [← hb]
  have hw8 : IntKind.i64.wrap (Int.tdiv a1 8) = q := by rw [hw8, hq]
  have hq2 : Int.tdiv a1 8 = q := hq.symm
  have hq3 : IntKind.i64.wrap q = q := by rw [hq, hw8, hq]
  have hm1 : Int.tmod a1 8 = m := hm.symm
  clear hq hm hb
  have hmk := print_make (P := Try.prog) 24 5 .u8 1 Try.underlying24 info5 (by omega) l0.length (by omega)
  simp only [made_eq] at hmk
  have HR0 := Aside0.mk (Kd.reads_of_C (d := (0 : Int)) hr0)
  clear hr0 hi hz0 hz1 hz2 hyes
  obtain ⟨xs0, hxs0⟩ : ∃ xs, xs = nums .u8 l0 := ⟨_, rfl⟩
  have hl0 : xs0.length = l0.length := by rw [hxs0, nums_length]
  have HX0 := Aside0.mk hxs0
  have HL0 := Aside0.mk hl0
  clear hxs0 hl0
  go_enter Try.func52, Try.ntmps52
  go_wp2_with (first
    | (go_at_call 55; (refine (there_any A0 c0 l0.length a1 _ hn).mono ?_); rintro e w' ⟨rfl, ⟨nd, rfl⟩⟩)
    | (refine wpList_copy_splice rfl (.tmp 16) (.tmp 17) 24 24 rfl 5 Try.underlying24 hsz1 (some ⟨w.heap.size, 0, none⟩) A0 l0.length l0.length l0.length c0 rfl rfl w.heap.size 0 (List.replicate l0.length (.int .u8 0)) 5 ?hg xs0 ?hn ?hpos ?hfit ?h1 w.heap.size w ?hb (Nat.le_refl _) ?_; rotate_right; intro w2 HG2 HB2; have hb2 := Aside0.mk HB2; clear HB2))
  case hg => first | exact heap_alloc_new _ _ | (rw [heap_alloc_new]; simp)
  case hn => exact HL0.out.trans (Nat.min_eq_right (Nat.le_refl _)).symm
  case hpos =>
    intro hp
    have hp' := HL0.out
    obtain ⟨ad, e1, e2⟩ := reads_cells HR0.out l0.length (Nat.le_refl _) (by omega)
    rw [List.take_length, ← HX0.out] at e2
    exact ⟨ad, e1, fun j v hj => pw_cell_below (below_alloc (pw_below_drewN (Below.refl _ _) _) _) (e2 j v hj)⟩
  case hfit => have := HL0.out; simp; omega
  case h1 => intro v hv; rw [HX0.out] at hv; simp [nums] at hv; obtain ⟨x, _, rfl⟩ := hv; rfl
  case hb => exact below_alloc (pw_below_drewN (Below.refl _ _) _) _
  have hh := HG2.out
  rw [splice_all _ _ (by have := HL0.out; simp; omega), HX0.out] at hh
  have hr := R_of_block (ok := fun _ => True) (base := w.heap.size) (xs := l0) hh (Nat.le_refl _) (by rw [List.take_of_length_le]; rw [nums_length]; exact Nat.le_refl _) (by rw [nums_length]; unfold maxLen; omega) trivial
  rw [nums_length] at hr
  have HO := Aside0.mk hr
  clear hr hh HG2
  refine wp_region_still_tail 10 (by kernel_rfl) (by kernel_rfl) ?_
  change wpStill _ _ w2.drew (fun a' => wpList _ _ _ _ a' w2.drew) _ _
  obtain ⟨w3, hw3⟩ : ∃ w3, w3 = w2.drew := ⟨_, rfl⟩
  have HO3 := Aside0.mk (Kd.R_drew HO.out)
  have hb3 := Aside0.mk (below_drew (Below.refl w2.heap.size w2))
  rw [← hw3] at HO3 hb3 ⊢
  clear hw3
  have hq0p := eq_true hq0'.out
  have hq1p := eq_true hq1'.out
  simp only [List.take_succ_cons, List.take_zero, List.drop_succ_cons, List.drop_zero]
  obtain ⟨hx0', hf0⟩ := Kd.R_celln 0 HO3.out q hq0'.out hq1'.out
  have hx0 : w3.cell? ⟨w.heap.size, q.toNat, none⟩ = some (.int .u8 (rd l0 q)) := hx0'
  clear hx0'
  have HP := Aside0.mk (Kd.R_putg HO3.out q (Go.bits .andNot .u8 (rd l0 q) b))
  iterate 10 still_step
  refine wpStill_nil ?_
  refine gate_store (t := 5) (p := 28) rfl ?_
  refine store_event (t := 5) (p := 28) (v := .tmp 27) (w1 := (w3.setCell ⟨w.heap.size, q.toNat, none⟩ (.int .u8 (Go.bits .andNot .u8 (rd l0 q) b)))) ?hg ?ho ?hn ?hr ?_
  case ho => rfl
  case hg => rfl
  case hn => rfl
  case hr => go_simp
  intro w4 hw4
  have HP4 := Aside0.mk (show Kd.R (Kd.int .u8) 5 w4 w.heap.size (fun _ => True) (.slice (some ⟨w.heap.size, 0, none⟩) l0.length l0.length) (l0.set q.toNat (Go.bits .andNot .u8 (rd l0 q) b)) by rw [hw4]; exact HP.out.1)
  have hb4 := Aside0.mk (show Below w.heap.size w w4 by rw [hw4]; exact below_set (below_step hb2.out hb3.out) (Nat.le_refl _))
  clear hw4 HP HO3 hb3 hb2 HO
  cases a2
  · go_wp2
    go_ret2
    exact ⟨_, rfl, HP4.out, hb4.out⟩
  · go_wp2
    clear hx0 hf0
    obtain ⟨l1, hl1⟩ : ∃ l1, l1 = l0.set q.toNat (Go.bits .andNot .u8 (rd l0 q) b) := ⟨_, rfl⟩
    have hlen : l1.length = l0.length := by rw [hl1, List.length_set]
    have hr1 : rd l1 q = Go.bits .andNot .u8 (rd l0 q) b := by
      obtain ⟨i, rfl⟩ := Int.eq_ofNat_of_zero_le hq0'.out
      have hi : i < l0.length := by have := hq1'.out; omega
      rw [hl1]
      simp [rd, hi]
    have hset : l1.set q.toNat (Go.bits .or .u8 (rd l1 q) b) = l0.set q.toNat (bitPut (rd l0 q) b true) := by
      rw [hr1, hl1, List.set_set]
      rfl
    rw [← hl1] at HP4
    have HS := Aside0.mk hset
    clear hl1 hr1 hset
    refine wp_region_still_tail 10 (by kernel_rfl) (by kernel_rfl) ?_
    change wpStill _ _ w4.drew (fun a' => wpList _ _ _ _ a' w4.drew) _ _
    obtain ⟨w5, hw5⟩ : ∃ w5, w5 = w4.drew := ⟨_, rfl⟩
    have HO5 := Aside0.mk (Kd.R_drew HP4.out)
    have hb5 := Aside0.mk (below_drew (Below.refl w4.heap.size w4))
    rw [← hw5] at HO5 hb5 ⊢
    clear hw5
    simp only [List.take_succ_cons, List.take_zero, List.drop_succ_cons, List.drop_zero]
    obtain ⟨hx1', hf1⟩ := Kd.R_celln 0 HO5.out q hq0'.out hq1'.out
    have hx1 : w5.cell? ⟨w.heap.size, q.toNat, none⟩ = some (.int .u8 (rd l1 q)) := hx1'
    clear hx1'
    have HP5 := Aside0.mk (Kd.R_putg HO5.out q (Go.bits .or .u8 (rd l1 q) b))
    iterate 10 still_step
    refine wpStill_nil ?_
    refine gate_store (t := 5) (p := 39) rfl ?_
    refine store_event (t := 5) (p := 39) (v := .tmp 38) (w1 := (w5.setCell ⟨w.heap.size, q.toNat, none⟩ (.int .u8 (Go.bits .or .u8 (rd l1 q) b)))) ?hg ?ho ?hn ?hr ?_
    case ho => rfl
    case hg => rfl
    case hn => rfl
    case hr => go_simp
    intro w6 hw6
    have HP6 := Aside0.mk (show Kd.R (Kd.int .u8) 5 w6 w.heap.size (fun _ => True) (.slice (some ⟨w.heap.size, 0, none⟩) l0.length l0.length) (l0.set q.toNat (bitPut (rd l0 q) b true)) by rw [hw6, ← HS.out]; exact HP5.out.1)
    have hb6 := Aside0.mk (show Below w.heap.size w w6 by rw [hw6]; exact below_set (below_step hb4.out hb5.out) (Nat.le_refl _))
    clear hw6 HP5 HO5 hb5 hb4 HP4
    go_wp2
    go_ret2
    exact ⟨_, rfl, HP6.out, hb6.out⟩
theorem bits_Set.calls (A0 : Option Addr) (c0 : Nat) (l0 : List Int) (a1 : Int) (a2 : Bool) (r1 : List Int) (r2 : Int) (w : World) (hr0 : Kd.C (Kd.int .u8) w A0 l0.length l0) (_hc0 : l0.length ≤ c0) (h : bits_Set.f l0 a1 a2 = some (r1, r2)) :
    Calls Try.prog 52 #[.slice A0 l0.length c0, .int .i64 a1, .bool a2] w fun e w' => ∃ v0_ : Value, e = .returned (.tuple #[v0_, .int .i64 r2]) ∧ Kd.R (Kd.int .u8) 5 w' w.heap.size (fun _ => True) v0_ r1 ∧ Below w.heap.size w w' := by
  unfold bits_Set.f at h
  by_cases hn : l0.length ≤ 140737488355328
  · rw [if_pos hn] at h
    by_cases h1 : 0 ≤ a1 ∧ a1 < 8 * (l0.length : Int)
    · rw [if_pos h1] at h
      obtain ⟨rfl, rfl⟩ := Prod.mk.inj (Option.some.inj h)
      exact set_yes A0 c0 l0 a1 a2 w hr0 hn h1
    · rw [if_neg h1] at h
      obtain ⟨rfl, rfl⟩ := Prod.mk.inj (Option.some.inj h)
      refine (set_no A0 c0 l0.length a1 a2 w hn h1).mono ?_
      rintro e w' ⟨rfl, ⟨nd, rfl⟩⟩
      exact ⟨_, rfl, Kd.R_nil _ _ _ _ _, pw_below_drewN (Below.refl _ _) _⟩
  · rw [if_neg hn] at h; cases h
/-- A number's first bytes. -/
def putV (v : Int) (n : Nat) : List Int := (List.range n).map fun i => v / 256 ^ i % 256
theorem putV_length (v : Int) (n : Nat) : (putV v n).length = n := by simp [putV]
theorem putV_succ (v : Int) (n : Nat) : putV v (n + 1) = putV v n ++ [v / 256 ^ n % 256] := by simp [putV, List.range_succ]
theorem splice_snoc (cur : List Value) (off i : Nat) (l : List Value) (u : Value) (hl : l.length = i) (hi : off + i < cur.length) :
    (splice cur off l).toArray.setIfInBounds (off + i) u = (splice cur off (l ++ [u])).toArray := by
  rw [List.setIfInBounds_toArray]
  congr 1
  unfold splice
  rw [List.append_assoc, List.set_append_right _ _ (by simp; omega)]
  rw [List.set_append_right _ _ (by simp; omega)]
  simp only [List.length_take, hl, List.length_append, List.length_singleton]
  congr 2
  rw [show off + i - min off cur.length - i = 0 by omega, List.drop_eq_getElem_cons (by omega)]
  rw [List.set_cons_zero]
  rfl
theorem splice_at (cur : List Value) (off i : Nat) (l : List Value) (hl : l.length = i) (hi : off + i < cur.length) : (splice cur off l).toArray[off + i]? = some (cur[off + i]'hi) := by
  rw [List.getElem?_toArray]
  unfold splice
  rw [List.getElem?_append_right (by simp; omega), List.getElem?_append_right (by simp; omega), List.getElem?_drop]
  simp only [List.length_take]
  rw [show off + l.length + (off + i - min off cur.length - l.length) = off + i by omega, List.getElem?_eq_getElem hi]
set_option maxRecDepth 100000 in
theorem put_cells (g off n c : Nat) (cur : List Value) (e : TypeId) (v : Int) (w : World) (hg : w.heap[g]? = some (.cells cur.toArray e (0, 0))) (hfit : off + n ≤ cur.length) (hn : n ≤ 140737488355328) :
    Calls Try.prog 31 #[.slice (some ⟨g, off, none⟩) n c, .int .u64 v] w fun e' w' => e' = .returned (.tuple #[]) ∧ w'.heap[g]? = some (.cells (splice cur off (nums .u8 (putV v n))).toArray e (0, 0)) ∧ Below g w w' := by
  have HG := Aside0.mk hg
  clear hg
  go_enter Try.func31, Try.ntmps31
  go_wp2
  go_loopw [1, 7] (fun v1 v7 wr => ∃ i : Nat, i ≤ n ∧ v1 = .int .u64 (v / 256 ^ i) ∧ v7 = .int .i64 i ∧ Aside0 (wr.heap[g]? = some (.cells (splice cur off (nums .u8 (putV v i))).toArray e (0, 0))) ∧ Aside0 (Below g w wr)) (fun _ v7 _ => n - (intOf v7).toNat)
  case atStart => exact ⟨0, by omega, by simp, rfl, ⟨by simpa [putV, nums, splice] using HG.out⟩, ⟨Below.refl _ _⟩⟩
  case round =>
    obtain ⟨i, hi, rfl, rfl, H1, H2⟩ := hrel
    by_cases hlt : i < n
    · have hc := (blk_cell H1.out (off + i)).trans (splice_at cur off i _ (by rw [nums_length, putV_length]) (by omega))
      have hf := blk_frozen H1.out (off + i)
      have hs := blk_put H1.out (off + i) (.int .u8 (v / 256 ^ i % 256)) (splice_snoc cur off i _ _ (by rw [nums_length, putV_length]) (by omega))
      have HS := Aside0.mk hs
      clear hs
      go_wp2
      go_roundw
      case rel => exact ⟨i + 1, by omega, by rw [Int.pow_succ, ← Int.ediv_ediv_of_nonneg (by exact Int.pow_nonneg (by decide))]; try rfl, by go_num, ⟨by rw [putV_succ, nums_append]; exact HS.out⟩, ⟨H2.out.setCell (Nat.le_refl _) _⟩⟩
      case measure => simp [intOf]; omega
    · obtain rfl : i = n := by omega
      go_wp2
      first | go_end0 | ((try simp only [Exit.inBlock, Exit.then]); refine bodyPost_ret (results_none rfl _ _ _) rfl ?_)
      exact ⟨rfl, H1.out, H2.out⟩
end Go.Proofs.Ytonkgfgciegknaa.P
