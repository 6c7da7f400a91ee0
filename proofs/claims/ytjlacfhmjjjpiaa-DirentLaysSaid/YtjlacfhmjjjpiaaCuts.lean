/-
Cuts of a row of bytes: what a cut is, and that it reads as the list's own cut; a text out of it.
Conditions: none.
-/
import Derived.Test.YtjlacfhmjjjpiaaProg
import Derived.Below
import Derived.Deep.Draws
import Derived.Deep.AppendLies
import Derived.Maps.AppendAt
import Derived.OwnWalk
import Derived.Laws.BytesArg
import Derived.Laws.MakeOwn
import Derived.Laws.OwnMore
import Derived.Deep.OwnRows
import Derived.Tactics
import Derived.Lib.ConvBytes
import Derived.Laws.Slices
import Derived.WalkKit
import Derived.KernelRfl
import Derived.RowKit3
import Derived.Deep.LoopGhost
import Derived.Deep.QuietTactic
import Derived.BigQuiet
import Derived.WideLaws
import Derived.Deep.DeepCutAuto
import Derived.Deep.CutBlock
import Derived.Deep.RegionHeld3
import Derived.Laws.Rows
import Derived.Lib.AppendStr
import Derived.ArgAppend
import Derived.Laws.IdiomCopy
import Derived.OrdersHeld
import Derived.Laws.BitsLemmas
import Derived.RowKit
import Derived.Test.YtjlacfhmjjjpiaaWWords
import Derived.Test.YtjlacfhmjjjpiaaWLast
import Derived.Test.YtjlacfhmjjjpiaaWTab
import Derived.Test.YtjlacfhmjjjpiaaWFour
import Derived.Test.YtjlacfhmjjjpiaaWQPut
import Derived.Test.YtjlacfhmjjjpiaaWApart
import Derived.Test.YtjlacfhmjjjpiaaWArr
import Derived.Test.YtjlacfhmjjjpiaaWZeros
import Derived.Test.YtjlacfhmjjjpiaaWFoot
import Derived.Test.YtjlacfhmjjjpiaaWKept
import Derived.Test.YtjlacfhmjjjpiaaWShare
import Derived.Test.YtjlacfhmjjjpiaaWN
import Derived.Test.YtjlacfhmjjjpiaaWFootNe
import Derived.Test.YtjlacfhmjjjpiaaWAt
import Derived.Test.YtjlacfhmjjjpiaaWEqStruct
import Derived.Test.YtjlacfhmjjjpiaaWRepsOne
import Derived.Test.YtjlacfhmjjjpiaaWInv
import Derived.Test.YtjlacfhmjjjpiaaWInvWords
import Derived.Test.YtjlacfhmjjjpiaaWGuard
import Derived.Test.YtjlacfhmjjjpiaaWNEv
import Derived.Test.YtjlacfhmjjjpiaaWMore
import Derived.Test.YtjlacfhmjjjpiaaHand
namespace Go.Proofs.Ytjlacfhmjjjpiaa.P
open Go.RowKit Go.Proofs.YtjlacfhmjjjpiaaW.PrintWords Go.Proofs.YtjlacfhmjjjpiaaW.PrintLast Go.Proofs.YtjlacfhmjjjpiaaW.PrintMore
attribute [local go_sem] max2_int min2_int max_two min_two max_three min_three max_four min_four
set_option linter.unusedVariables false
set_option linter.unusedSimpArgs false
theorem sg_take (A0 : Option Addr) (c0 : Nat) (l0 : List Int) (j : Int) (n : Nat) (hn : j = (n : Int)) (hj : n ≤ l0.length) (hc : l0.length ≤ c0) :
    (∀ W : World, (Instr.slice 24 (.slice A0 l0.length c0) none (some (.int .i64 j)) none).run Try.prog W = .ok (.slice A0 n c0) W) ∧ (∀ w, Kd.C (Kd.int .u8) w A0 l0.length l0 → Kd.C (Kd.int .u8) w A0 n (l0.take n)) ∧ (l0.take n).length = n ∧ n ≤ c0 := by
  subst hn
  obtain ⟨i0, hi, _, hsz, _⟩ := info_parts info5
  obtain ⟨h1, h2, h3⟩ := print_take_of (P := Try.prog) (Value.int .u8) 0 24 5 .i64 Try.underlying24 hi hsz A0 c0 l0 (n : Int) (by omega) (by omega) hc
  have hlen : (l0.take n).length = n := by rw [List.length_take]; omega
  rw [Int.toNat_natCast, hlen] at h2 h3
  simp only [Int.toNat_natCast, hlen] at h1
  exact ⟨h1, fun w h => Kd.C_of_reads (h1 := fun _ => rfl) (h2 w (Kd.reads_of_C h)), hlen, h3⟩
theorem sg_drop (A0 : Option Addr) (c0 : Nat) (l0 : List Int) (j : Int) (n m : Nat) (hn : j = (n : Int)) (hj : l0.length = n + m) (hc : l0.length ≤ c0) :
    ∃ A : Option Addr, (∀ W : World, (Instr.slice 24 (.slice A0 l0.length c0) (some (.int .i64 j)) none none).run Try.prog W = .ok (.slice A m (c0 - n)) W) ∧ (∀ w, Kd.C (Kd.int .u8) w A0 l0.length l0 → Kd.C (Kd.int .u8) w A m (l0.drop n)) ∧ (l0.drop n).length = m ∧ m ≤ c0 - n := by
  subst hn
  obtain ⟨i0, hi, _, hsz, _⟩ := info_parts info5
  obtain ⟨A, h1, h2, h3⟩ := print_drop_of (P := Try.prog) (Value.int .u8) 0 24 5 .i64 Try.underlying24 hi hsz A0 c0 l0 (n : Int) (by omega) (by omega) hc
  have hlen : (l0.drop n).length = m := by rw [List.length_drop]; omega
  rw [Int.toNat_natCast, hlen] at h2 h3
  simp only [Int.toNat_natCast, hlen] at h1
  exact ⟨A, h1, fun w h => Kd.C_of_reads (h1 := fun _ => rfl) (h2 w (Kd.reads_of_C h)), hlen, h3⟩
theorem sg_mid (A0 : Option Addr) (c0 : Nat) (l0 : List Int) (i j : Int) (p q m : Nat) (hp : i = (p : Int)) (hq : j = (q : Int)) (hm : q = p + m) (hj : q ≤ l0.length) (hc : l0.length ≤ c0) :
    ∃ A : Option Addr, (∀ W : World, (Instr.slice 24 (.slice A0 l0.length c0) (some (.int .i64 i)) (some (.int .i64 j)) none).run Try.prog W = .ok (.slice A m (c0 - p)) W) ∧ (∀ w, Kd.C (Kd.int .u8) w A0 l0.length l0 → Kd.C (Kd.int .u8) w A m ((l0.take q).drop p)) ∧ ((l0.take q).drop p).length = m ∧ m ≤ c0 - p := by
  subst hp
  subst hq
  obtain ⟨i0, hi, _, hsz, _⟩ := info_parts info5
  obtain ⟨A, h1, h2, h3⟩ := print_mid_of (P := Try.prog) (Value.int .u8) 0 24 5 .i64 .i64 Try.underlying24 hi hsz A0 c0 l0 (p : Int) (q : Int) (by omega) (by omega) (by omega) hc
  have hlen : ((l0.take q).drop p).length = m := by rw [List.length_drop, List.length_take]; omega
  rw [Int.toNat_natCast, Int.toNat_natCast, hlen] at h2 h3
  simp only [Int.toNat_natCast, hlen] at h1
  exact ⟨A, h1, fun w h => Kd.C_of_reads (h1 := fun _ => rfl) (h2 w (Kd.reads_of_C h)), hlen, h3⟩
theorem str_n {w : World} (A : Option Addr) (c n : Nat) (l : List Int) (hn : l.length = n) (hC : Kd.C (Kd.int .u8) w A n l) : (convert 24 9 (.slice A n c)).run Try.prog w = .ok (.string (strOfNums l)) w := by
  subst hn
  exact Kd.C_string (P := Try.prog) (A := A) (c := c) Try.underlying24 Try.underlying5 Try.underlying9 hC
end Go.Proofs.Ytjlacfhmjjjpiaa.P
