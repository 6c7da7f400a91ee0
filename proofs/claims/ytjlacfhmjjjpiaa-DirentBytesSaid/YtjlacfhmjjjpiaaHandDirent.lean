/-
dirent.Name (a range over a text) and dirent.at, walked by hand.
Conditions: none.
-/
import Derived.Test.YtjlacfhmjjjpiaaProg
import Derived.Below
import Derived.Deep.Draws
import Derived.Deep.AppendLies
import Derived.Maps.AppendAt
import Derived.OwnWalk
import Derived.Laws.BytesArg
import Derived.Laws.MakeOwn
import Derived.Laws.OwnMore
import Derived.Deep.OwnRows
import Derived.Tactics
import Derived.Lib.ConvBytes
import Derived.Laws.Slices
import Derived.WalkKit
import Derived.KernelRfl
import Derived.RowKit3
import Derived.Deep.LoopGhost
import Derived.Deep.QuietTactic
import Derived.BigQuiet
import Derived.WideLaws
import Derived.Deep.DeepCutAuto
import Derived.Deep.CutBlock
import Derived.Deep.RegionHeld3
import Derived.Laws.Rows
import Derived.Lib.AppendStr
import Derived.ArgAppend
import Derived.Laws.IdiomCopy
import Derived.OrdersHeld
import Derived.Laws.BitsLemmas
import Derived.RowKit
import Derived.Test.YtjlacfhmjjjpiaaWWords
import Derived.Test.YtjlacfhmjjjpiaaWLast
import Derived.Test.YtjlacfhmjjjpiaaWTab
import Derived.Test.YtjlacfhmjjjpiaaWFour
import Derived.Test.YtjlacfhmjjjpiaaWQPut
import Derived.Test.YtjlacfhmjjjpiaaWApart
import Derived.Test.YtjlacfhmjjjpiaaWArr
import Derived.Test.YtjlacfhmjjjpiaaWZeros
import Derived.Test.YtjlacfhmjjjpiaaWFoot
import Derived.Test.YtjlacfhmjjjpiaaWKept
import Derived.Test.YtjlacfhmjjjpiaaWShare
import Derived.Test.YtjlacfhmjjjpiaaWN
import Derived.Test.YtjlacfhmjjjpiaaWFootNe
import Derived.Test.YtjlacfhmjjjpiaaWAt
import Derived.Test.YtjlacfhmjjjpiaaWEqStruct
import Derived.Test.YtjlacfhmjjjpiaaWRepsOne
import Derived.Test.YtjlacfhmjjjpiaaWInv
import Derived.Test.YtjlacfhmjjjpiaaWInvWords
import Derived.Test.YtjlacfhmjjjpiaaWGuard
import Derived.Test.YtjlacfhmjjjpiaaWNEv
import Derived.Test.YtjlacfhmjjjpiaaWMore
import Derived.Laws.RangeAny
import Derived.Laws.RangeString
import Derived.Test.YtjlacfhmjjjpiaaCuts
namespace Go.Proofs.Ytjlacfhmjjjpiaa.P
open Go.RowKit Go.Proofs.YtjlacfhmjjjpiaaW.PrintWords Go.Proofs.YtjlacfhmjjjpiaaW.PrintLast Go.Proofs.YtjlacfhmjjjpiaaW.PrintMore
attribute [local go_sem] max2_int min2_int max_two min_two max_three min_three max_four min_four
set_option linter.unusedVariables false
set_option linter.unusedSimpArgs false
/-- Is no rune from here on a slash or 0? b: at most so many rounds. -/
def nameR (s : ByteArray) : Nat → Nat → Bool
  | 0, _ => true
  | b + 1, pos => if pos < s.size then (if ((Utf8.decode s pos).1 : Int) = 47 ∨ ((Utf8.decode s pos).1 : Int) = 0 then false else nameR s b (pos + (Utf8.decode s pos).2)) else true
theorem rune_width (s : ByteArray) (pos : Nat) (h : pos < s.size) : 1 ≤ (Utf8.decode s pos).2 := by
  by_cases ha : (s[pos]'h).toNat < 128
  · rw [decode_ascii s pos h ha]
    exact Nat.le_refl _
  · exact (decode_high s pos h (by omega)).2
theorem nameR_end (s : ByteArray) (b pos : Nat) (h : ¬ pos < s.size) : nameR s b pos = true := by
  cases b with
  | zero => rfl
  | succ b => rw [nameR, if_neg h]
def nameS (s : ByteArray) : Bool := !(s.toList == ([] : List UInt8)) && !(s.toList == ([46] : List UInt8)) && !(s.toList == ([46, 46] : List UInt8)) && nameR s s.size 0 && decide ((s.size : Int) ≤ 24)
theorem iter_below (w : World) (s : ByteArray) (pos : Nat) : Below w.heap.size w (w.iter s pos) := (Below.refl w.heap.size w).alloc (Nat.le_refl _) _
theorem name_walk (s : ByteArray) (w : World) (h0 : (s.toList == ([] : List UInt8)) = false) (h1 : (s.toList == ([46] : List UInt8)) = false) (h2 : (s.toList == ([46, 46] : List UInt8)) = false) :
    Calls Try.prog 11 #[.string s] w fun e w' => e = .returned (.bool (nameR s s.size 0 && decide ((s.size : Int) ≤ 24))) ∧ Below w.heap.size w w' := by
  go_enter Try.func11, Try.ntmps11
  go_wp2
  go_loopg [2] s.size (fun q v2 w' => ∃ (pos : Nat), v2 = .bool false ∧ w' = w.iter s pos ∧ Aside0 (nameR s q pos = nameR s s.size 0) ∧ Aside0 (s.size ≤ pos + q))
  case atStart => exact ⟨0, rfl, rfl, ⟨rfl⟩, ⟨by omega⟩⟩
  case round =>
    obtain ⟨pos, rfl, rfl, HN, HQ⟩ := hrel
    by_cases hp : pos < s.size
    · have hnx : ∀ ty, (Instr.next (.pointer (some ⟨w.heap.size, 0, none⟩)) true ty).run Try.prog (w.iter s pos) = _ := fun ty => run_next_any w s pos ty hp
      have hwd := rune_width s pos hp
      rcases gk with _ | q
      · have := HQ.out; omega
      have H := HN.out
      rw [nameR, if_pos hp] at H
      generalize hr : (((Utf8.decode s pos).1 : Nat) : Int) = r at *
      by_cases h47 : r = 47
      · rw [if_pos (Or.inl h47)] at H
        have t47 : (r == 47) = true := beq_iff_eq.mpr h47
        have HH := Aside0.mk H
        clear H HN HQ hwd h47
        go_wp2
        go_ret
        exact ⟨by rw [← HH.out]; rfl, iter_below _ _ _⟩
      · by_cases hz : r = 0
        · rw [if_pos (Or.inr hz)] at H
          have t47 : (r == 47) = false := beq_eq_false_iff_ne.mpr h47
          have t0 : (r == 0) = true := beq_iff_eq.mpr hz
          have HH := Aside0.mk H
          clear H HN HQ hwd h47 hz
          go_wp2
          go_ret
          exact ⟨by rw [← HH.out]; rfl, iter_below _ _ _⟩
        · rw [if_neg (by rintro (h | h); exact h47 h; exact hz h)] at H
          have t47 : (r == 47) = false := beq_eq_false_iff_ne.mpr h47
          have t0 : (r == 0) = false := beq_eq_false_iff_ne.mpr hz
          have HH := Aside0.mk H
          have HW := Aside0.mk hwd
          clear H HN hwd h47 hz
          go_wp2
          go_roundg q
          case measure => omega
          case rel => exact ⟨_, rfl, rfl, HH, ⟨by have := HQ.out; have := HW.out; omega⟩⟩
    · have hnx : ∀ ty, (Instr.next (.pointer (some ⟨w.heap.size, 0, none⟩)) true ty).run Try.prog (w.iter s pos) = _ := fun ty => run_next_end w s pos ty hp
      have hn : nameR s s.size 0 = true := by rw [← HN.out]; exact nameR_end s _ pos hp
      have HH := Aside0.mk hn
      clear hn HN HQ
      go_wp2
      go_ret
      exact ⟨by rw [HH.out]; rfl, iter_below _ _ _⟩
def dirent_Name.f (_k : Nat) (a0 : ByteArray) : Option Bool := some (nameS a0)
theorem dirent_Name.mono : ∀ a0 k, LeO (dirent_Name.f k a0) (dirent_Name.f (k + 1) a0) := fun _ _ => LeO.refl _
theorem name_no (s : ByteArray) (w : World) (h : (s.toList == ([] : List UInt8)) = true ∨ (s.toList == ([46] : List UInt8)) = true ∨ (s.toList == ([46, 46] : List UInt8)) = true) :
    Calls Try.prog 11 #[.string s] w fun e w' => e = .returned (.bool false) ∧ Below w.heap.size w w' := by
  by_cases h0 : (s.toList == ([] : List UInt8)) = true
  · clear h
    go_enter Try.func11, Try.ntmps11
    go_wp2
    go_ret
    exact ⟨rfl, Below.refl _ _⟩
  · replace h0 := Bool.eq_false_iff.mpr h0
    by_cases h1 : (s.toList == ([46] : List UInt8)) = true
    · clear h
      go_enter Try.func11, Try.ntmps11
      go_wp2
      go_ret
      exact ⟨rfl, Below.refl _ _⟩
    · replace h1 := Bool.eq_false_iff.mpr h1
      have h2 : (s.toList == ([46, 46] : List UInt8)) = true := by
        rcases h with h | h | h
        · rw [h0] at h; cases h
        · rw [h1] at h; cases h
        · exact h
      clear h
      go_enter Try.func11, Try.ntmps11
      go_wp2
      go_ret
      exact ⟨rfl, Below.refl _ _⟩
theorem dirent_Name.calls (k : Nat) (a0 : ByteArray) (r : Bool) (w : World) (h : dirent_Name.f k a0 = some r) :
    Calls Try.prog 11 #[.string a0] w fun e w' => e = .returned (.bool r) ∧ Below w.heap.size w w' := by
  obtain rfl := Option.some.inj h
  clear h
  unfold nameS
  by_cases h0 : (a0.toList == ([] : List UInt8)) = true
  · rw [h0]
    exact name_no a0 w (Or.inl h0)
  · replace h0 := Bool.eq_false_iff.mpr h0
    by_cases h1 : (a0.toList == ([46] : List UInt8)) = true
    · rw [h0, h1]
      exact name_no a0 w (Or.inr (Or.inl h1))
    · replace h1 := Bool.eq_false_iff.mpr h1
      by_cases h2 : (a0.toList == ([46, 46] : List UInt8)) = true
      · rw [h0, h1, h2]
        exact name_no a0 w (Or.inr (Or.inr h2))
      · replace h2 := Bool.eq_false_iff.mpr h2
        rw [h0, h1, h2]
        exact name_walk a0 w h0 h1 h2
/-- What at hands back where it hands back bytes. -/
def cut32 (l : List Int) (p : Int) : List Int := (l.take (p * 32 + 32).toNat).drop (p * 32).toNat
theorem at_ok (A0 : Option Addr) (c0 : Nat) (l0 : List Int) (p : Int) (hl : l0.length = 256) (hc0 : l0.length ≤ c0) (h0 : 0 ≤ p) (h1 : p < 8) :
    ∃ (A : Option Addr) (c : Nat), (∀ w, Calls Try.prog 35 #[.slice A0 l0.length c0, .int .i64 p] w fun e w' => e = .returned (.tuple #[.slice A 32 c, .int .i64 0]) ∧ w' = w) ∧ (∀ w, Kd.C (Kd.int .u8) w A0 l0.length l0 → Kd.C (Kd.int .u8) w A 32 (cut32 l0 p)) ∧ (cut32 l0 p).length = 32 ∧ 32 ≤ c := by
  obtain ⟨A, hcut, hC, hlen, hcap⟩ := sg_mid A0 c0 l0 (p * 32) ((p + 1) * 32) (p * 32).toNat (p * 32 + 32).toNat 32 (by omega) (by omega) (by omega) (by omega) hc0
  refine ⟨A, c0 - (p * 32).toNat, fun w => ?_, hC, hlen, hcap⟩
  have hb0 : ((l0.length : Int) == 256) = true := by rw [beq_iff_eq]; omega
  have hb1 : ((l0.length : Int) != 256) = false := by rw [bne_eq_false_iff_eq]; omega
  have hp0 : decide (p < 0) = false := decide_eq_false (by omega)
  have hp1 : decide (8 ≤ p) = false := decide_eq_false (by omega)
  have h2 : p ≤ 7 := by omega
  clear hC hlen hcap hl hc0 h1
  go_enter Try.func35, Try.ntmps35
  go_wp2
  go_ret2
  exact ⟨rfl, rfl⟩
theorem at_size (A0 : Option Addr) (c0 n : Nat) (p : Int) (w : World) (hl : ¬ n = 256) :
    Calls Try.prog 35 #[.slice A0 n c0, .int .i64 p] w fun e w' => e = .returned (.tuple #[.slice none 0 0, .int .i64 4]) ∧ w' = w := by
  have hb0 : ((n : Int) == 256) = false := by rw [beq_eq_false_iff_ne]; omega
  have hb1 : ((n : Int) != 256) = true := by rw [bne_iff_ne]; omega
  clear hl
  go_enter Try.func35, Try.ntmps35
  go_wp2
  go_ret2
  exact ⟨rfl, rfl⟩
theorem at_range (A0 : Option Addr) (c0 n : Nat) (p : Int) (w : World) (hl : n = 256) (h : ¬ (0 ≤ p ∧ p < 8)) :
    Calls Try.prog 35 #[.slice A0 n c0, .int .i64 p] w fun e w' => e = .returned (.tuple #[.slice none 0 0, .int .i64 3]) ∧ w' = w := by
  have hb0 : ((n : Int) == 256) = true := by rw [beq_iff_eq]; omega
  have hb1 : ((n : Int) != 256) = false := by rw [bne_eq_false_iff_eq]; omega
  by_cases h0 : p < 0
  · have hp0 : decide (p < 0) = true := decide_eq_true h0
    clear hl h h0
    go_enter Try.func35, Try.ntmps35
    go_wp2
    go_ret2
    exact ⟨rfl, rfl⟩
  · have hp0 : decide (p < 0) = false := decide_eq_false h0
    have hp1 : decide (8 ≤ p) = true := decide_eq_true (by omega)
    clear hl h h0
    go_enter Try.func35, Try.ntmps35
    go_wp2
    go_ret2
    exact ⟨rfl, rfl⟩
end Go.Proofs.Ytjlacfhmjjjpiaa.P
