/-
dirent.entries (an iterator), walked by hand.
Conditions: none.
-/
import Derived.Test.YtjlacfhmjjjpiaaProg
import Derived.Below
import Derived.Deep.Draws
import Derived.Deep.AppendLies
import Derived.Maps.AppendAt
import Derived.OwnWalk
import Derived.Laws.BytesArg
import Derived.Laws.MakeOwn
import Derived.Laws.OwnMore
import Derived.Deep.OwnRows
import Derived.Tactics
import Derived.Lib.ConvBytes
import Derived.Laws.Slices
import Derived.WalkKit
import Derived.KernelRfl
import Derived.RowKit3
import Derived.Deep.LoopGhost
import Derived.Deep.QuietTactic
import Derived.BigQuiet
import Derived.WideLaws
import Derived.Deep.DeepCutAuto
import Derived.Deep.CutBlock
import Derived.Deep.RegionHeld3
import Derived.Laws.Rows
import Derived.Lib.AppendStr
import Derived.ArgAppend
import Derived.Laws.IdiomCopy
import Derived.OrdersHeld
import Derived.Laws.BitsLemmas
import Derived.RowKit
import Derived.Test.YtjlacfhmjjjpiaaWWords
import Derived.Test.YtjlacfhmjjjpiaaWLast
import Derived.Test.YtjlacfhmjjjpiaaWTab
import Derived.Test.YtjlacfhmjjjpiaaWFour
import Derived.Test.YtjlacfhmjjjpiaaWQPut
import Derived.Test.YtjlacfhmjjjpiaaWApart
import Derived.Test.YtjlacfhmjjjpiaaWArr
import Derived.Test.YtjlacfhmjjjpiaaWZeros
import Derived.Test.YtjlacfhmjjjpiaaWFoot
import Derived.Test.YtjlacfhmjjjpiaaWKept
import Derived.Test.YtjlacfhmjjjpiaaWShare
import Derived.Test.YtjlacfhmjjjpiaaWN
import Derived.Test.YtjlacfhmjjjpiaaWFootNe
import Derived.Test.YtjlacfhmjjjpiaaWAt
import Derived.Test.YtjlacfhmjjjpiaaWEqStruct
import Derived.Test.YtjlacfhmjjjpiaaWRepsOne
import Derived.Test.YtjlacfhmjjjpiaaWInv
import Derived.Test.YtjlacfhmjjjpiaaWInvWords
import Derived.Test.YtjlacfhmjjjpiaaWGuard
import Derived.Test.YtjlacfhmjjjpiaaWNEv
import Derived.Test.YtjlacfhmjjjpiaaWMore
import Derived.Shelf.Abstract
import Derived.RangeFuncNested
import Derived.RangeFuncBound
import Derived.RangeFuncCalls
import Derived.RangeFuncLeaves
import Derived.RangeFuncBox
import Derived.OwnWalkIn
import Derived.TacticsInMore
import Derived.LoopNIn
import Derived.LoopIn
import Derived.RegionIn
import Derived.Test.YtjlacfhmjjjpiaaHandDirent2
namespace Go.Proofs.Ytjlacfhmjjjpiaa.P
open Go.RowKit Go.Proofs.YtjlacfhmjjjpiaaW.PrintWords Go.Proofs.YtjlacfhmjjjpiaaW.PrintLast Go.Proofs.YtjlacfhmjjjpiaaW.PrintMore
attribute [local go_sem] max2_int min2_int max_two min_two max_three min_three max_four min_four
set_option linter.unusedVariables false
set_option linter.unusedSimpArgs false
attribute [local go_sem] Oper.semAt_some
/-- A place and its entry. -/
abbrev DE := Int × Int × Bool × ByteArray
def encE (x : DE) : Array Value := #[.int .i64 x.1, .agg #[.int .i64 x.2.1, .bool x.2.2.1, .string x.2.2.2]]
/-- The entries from a place on. -/
def entR (k : Nat) (l0 : List Int) : Nat → Int → Option (List DE)
  | 0, _ => some []
  | q + 1, i => (dirent_Read.f k l0 i).bind fun e => (entR k l0 q (i + 1)).bind fun rest => some (if e.2.2.2 = 0 ∧ e.1 ≠ 0 then (i, e.1, e.2.1, e.2.2.1) :: rest else rest)
theorem entR.mono (k : Nat) (l0 : List Int) : ∀ q i, LeO (entR k l0 q i) (entR (k + 1) l0 q i)
  | 0, _ => LeO.refl _
  | q + 1, i => LeO.bind (dirent_Read.mono _ _ _) fun _ => LeO.bind (entR.mono k l0 q _) fun _ => LeO.refl _
theorem entR_length (k : Nat) (l0 : List Int) : ∀ q i L, entR k l0 q i = some L → L.length ≤ q
  | 0, _, _, h => by cases h; exact Nat.le_refl _
  | q + 1, i, L, h => by
    obtain ⟨e, _, h⟩ := Option.bind_eq_some_iff.mp h
    obtain ⟨rest, hr, h⟩ := Option.bind_eq_some_iff.mp h
    have h2 := entR_length k l0 q (i + 1) rest hr
    obtain rfl := Option.some.inj h
    split
    · rw [List.length_cons]; omega
    · omega
/-- What the rounds keep: the elder blocks, and the iterator's own. -/
def KeepG (B g : Nat) (W W' : World) : Prop := Below B W W' ∧ W'.heap[g]? = W.heap[g]?
theorem keepG_t {B g : Nat} {X Y Z : World} (h : KeepG B g X Y) (k : KeepG B g Y Z) : KeepG B g X Z := ⟨h.1.trans k.1, k.2.trans h.2⟩
theorem keepG_b {B g : Nat} {w : World} (hB : B ≤ w.heap.size) (hg : g < w.heap.size) (W : World) (l : Nat) (o o' : Obj) (hl : w.heap.size ≤ l) (h : W.heap[l]? = some o) (h1 : o.isCells = false) (h2 : o.isWalk = false) : KeepG B g W (W.putObj l o') := by
  refine ⟨belowK_b (w := w) hB W l o o' hl h h1 h2, ?_⟩
  have hgr := grownBy_putObj' W l o'
  have hlt : l < W.heap.size := (Array.getElem?_eq_some_iff.1 h).1
  exact hgr.block g (by omega) (by intro e; injection e with e; omega)
theorem entries_any (A0 : Option Addr) (n c0 : Nat) (w : World) :
    Calls Try.prog 38 #[.slice A0 n c0] w fun e w' => e = .returned (.func (.func 41) #[] #[.pointer (some ⟨w.heap.size, 0, none⟩)]) ∧ w' = w.alloc (.cells #[.slice A0 n c0] 24) := by
  have hmf : ∀ (fn : Fn) (first cap : Array Value) (w : World), (Instr.makeFunc fn first cap).run Try.prog w = .ok (.func fn first cap) w := fun _ _ _ _ => rfl
  go_enter Try.func38, Try.ntmps38
  go_wp2
  go_ret
  exact ⟨rfl, rfl⟩
set_option maxHeartbeats 4000000 in
set_option maxRecDepth 100000 in
theorem entries_stops (n : Nat) (hn : 1 ≤ n) (g k : Nat) (A0 : Option Addr) (c0 : Nat) (l0 : List Int) (L : List DE) (w0 w : World) (hr0 : Kd.C (Kd.int .u8) w0 A0 l0.length l0) (hc0 : l0.length ≤ c0) (hbw : Below w0.heap.size w0 w) (hg : w.heap[g]? = some (.cells #[.slice A0 l0.length c0] 24 (0, 0))) (hL : entR k l0 8 0 = some L) :
    SeqStopsK Fence.wide n Try.prog 41 #[.pointer (some ⟨g, 0, none⟩)] encE (KeepG w0.heap.size g) (fun xs => xs = L) (fun pre => pre <+: L) 8 w := fun l J Jx W hW hJ hJx hY h0 => by
  refine callsIn_of_wp Try.func41 rfl trivial ?_ rfl
  simp only [Try.ntmps41, List.size_toArray, List.length_cons, List.length_nil, Nat.reduceAdd, Nat.reduceSub, Array.replicate_succ, Array.replicate_zero, List.push_toArray, List.append_toArray, List.nil_append, List.cons_append]
  have hr0' := hr0
  have hc0' := hc0
  clear hr0 hc0
  gi_wp2
  gi_loopw [6] (fun v6 wr => ∃ (q : Nat) (i : Int) (pre rest : List DE), v6 = .int .i64 i ∧ Aside0 (i = 8 - (q : Int) ∧ q ≤ 8) ∧ Aside0 (L = pre ++ rest) ∧ Aside0 (entR k l0 q i = some rest) ∧ Aside0 (J pre wr) ∧ Aside0 (Below w0.heap.size w0 wr) ∧ Aside0 (wr.heap[g]? = some (.cells #[.slice A0 l0.length c0] 24 (0, 0)))) (fun v6 _ => 8 - (intOf v6).toNat)
  case atStart =>
    exact ⟨8, 0, [], L, rfl, ⟨by omega⟩, ⟨rfl⟩, ⟨hL⟩, ⟨h0⟩, ⟨hbw.trans (hW.mono hbw.size)⟩, ⟨(hW.block g (blk_lt hg)).trans hg⟩⟩
  case round =>
    obtain ⟨q, i, pre, rest, rfl, HI, HP, HE, HJ, HB, HG⟩ := hrel
    have HLn := Aside0.mk (entR_length k l0 8 0 L hL)
    have hcell : wr.cell? ⟨g, 0, none⟩ = some (.slice A0 l0.length c0) := (blk_cell HG.out 0).trans rfl
    rcases q with _ | q
    · obtain rfl : i = 8 := by have := HI.out; omega
      obtain rfl : [] = rest := Option.some.inj HE.out
      gi_wp2
      go_end0
      exact ⟨⟨_, rfl⟩, .inl ⟨pre, by rw [HP.out, List.append_nil], HJ.out⟩⟩
    · have h0' : 0 ≤ i := by have := HI.out; omega
      have h7 : i ≤ 7 := by have := HI.out; omega
      have t0 : decide (i < 8) = true := decide_eq_true (by omega)
      have HI2 := Aside0.mk (show i + 1 = 8 - (q : Int) ∧ q ≤ 8 by have := HI.out; omega)
      obtain ⟨⟨s, lv, nm, er⟩, hrd, hE⟩ := Option.bind_eq_some_iff.mp HE.out
      obtain ⟨rest', hr', hE⟩ := Option.bind_eq_some_iff.mp hE
      have HRD := Aside0.mk hrd
      have HR' := Aside0.mk hr'
      clear hrd hr' HI
      by_cases hc : er = 0 ∧ s ≠ 0
      · rw [if_pos hc] at hE
        obtain rfl := Option.some.inj hE
        obtain ⟨rfl, hs⟩ := hc
        have s0 : (s == 0) = false := beq_eq_false_iff_ne.mpr hs
        have s1 : (s != 0) = true := bne_iff_ne.mpr hs
        have HLen := Aside0.mk (show pre.length < 8 by have h1 := HLn.out; rw [HP.out] at h1; simp at h1; omega)
        clear hE hs
        gi_wp2_with (refine ⟨trivial, ?_⟩; gi_at_call 17; go_loud (refine (callsIn_wide.2 (dirent_Read.calls k A0 c0 l0 i s lv nm 0 _ (Kd.C_below hr0' HB.out) hc0' HRD.out)).mono ?_; rintro e w3 ⟨rfl, hb⟩; have HBx := Aside0.mk ((Below.mono hb (Nat.le_refl _)).alloc hb.size (.cells #[.int .i64 s, .bool lv, .string nm] 23)); have HB3 := Aside0.mk (below_step HB.out HBx.out); have HG3 := Aside0.mk (blk_below HG.out HBx.out); obtain ⟨fn, tmps, assign, body, hy, hR⟩ := hY pre (i, s, lv, nm) _ (hJ pre wr _ none HJ.out (grown_of_below HBx.out none) (by intro r e; cases e)) HLen.out; dsimp only [encE] at hy; clear hb))
        refine hR.mono ?_
        rintro e W' (⟨rfl, hJ', hk⟩ | ⟨rfl, hJx'⟩)
        · have HJ' := Aside0.mk hJ'
          have HKB := Aside0.mk (HB3.out.trans hk.1)
          have HKG := Aside0.mk (hk.2.trans HG3.out)
          clear hJ' hk
          gi_wp2
          go_roundw
          case rel => exact ⟨q, i + 1, pre ++ [(i, s, lv, nm)], rest', rfl, HI2, ⟨by rw [HP.out]; simp⟩, HR', HJ', HKB, HKG⟩
          case measure => simp [intOf]; omega
        · gi_wp2
          refine bodyPost_ret (results_none rfl _ _ _) rfl ?_
          exact ⟨⟨_, rfl⟩, .inr ⟨pre ++ [(i, s, lv, nm)], ⟨rest', by rw [HP.out]; simp⟩, hJx'⟩⟩
      · rw [if_neg hc] at hE
        obtain rfl := Option.some.inj hE
        clear hE
        by_cases he : er = 0
        · subst he
          obtain rfl : s = 0 := by by_cases hs : s = 0; exact hs; exact absurd ⟨rfl, hs⟩ hc
          clear hc
          gi_wp2_with (refine ⟨trivial, ?_⟩; gi_at_call 17; go_loud (refine (callsIn_wide.2 (dirent_Read.calls k A0 c0 l0 i 0 lv nm 0 _ (Kd.C_below hr0' HB.out) hc0' HRD.out)).mono ?_; rintro e w3 ⟨rfl, hb⟩; have HBx := Aside0.mk ((Below.mono hb (Nat.le_refl _)).alloc hb.size (.cells #[.int .i64 0, .bool lv, .string nm] 23)); have HB3 := Aside0.mk (below_step HB.out HBx.out); have HG3 := Aside0.mk (blk_below HG.out HBx.out); have HJ3 := Aside0.mk (hJ pre wr _ none HJ.out (grown_of_below HBx.out none) (by intro r e; cases e)); clear hb))
          all_goals (try (refine ⟨fun _ h => (by cases h), ?_⟩; gi_wp2))
          go_roundw
          case rel => exact ⟨q, i + 1, pre, _, rfl, HI2, HP, HR', HJ3, HB3, HG3⟩
          case measure => simp [intOf]; omega
        · have e0 : (er == 0) = false := beq_eq_false_iff_ne.mpr he
          clear hc he
          gi_wp2_with (refine ⟨trivial, ?_⟩; gi_at_call 17; go_loud (refine (callsIn_wide.2 (dirent_Read.calls k A0 c0 l0 i s lv nm er _ (Kd.C_below hr0' HB.out) hc0' HRD.out)).mono ?_; rintro e w3 ⟨rfl, hb⟩; have HBx := Aside0.mk ((Below.mono hb (Nat.le_refl _)).alloc hb.size (.cells #[.int .i64 s, .bool lv, .string nm] 23)); have HB3 := Aside0.mk (below_step HB.out HBx.out); have HG3 := Aside0.mk (blk_below HG.out HBx.out); have HJ3 := Aside0.mk (hJ pre wr _ none HJ.out (grown_of_below HBx.out none) (by intro r e; cases e)); clear hb))
          all_goals (try (refine ⟨fun _ h => (by cases h), ?_⟩; gi_wp2))
          go_roundw
          case rel => exact ⟨q, i + 1, pre, _, rfl, HI2, HP, HR', HJ3, HB3, HG3⟩
          case measure => simp [intOf]; omega
/-- The place of a name among entries; -1: none. -/
def findL (nm : ByteArray) : List DE → Int
  | [] => -1
  | x :: r => if (x.2.2.2.toList == nm.toList) = true then x.1 else findL nm r
theorem findL_none (nm : ByteArray) : ∀ L : List DE, (∀ y ∈ L, (y.2.2.2.toList == nm.toList) = false) → findL nm L = -1
  | [], _ => rfl
  | x :: r, h => by
    rw [findL, h x (List.mem_cons_self ..), if_neg (by decide)]
    exact findL_none nm r (fun y hy => h y (List.mem_cons_of_mem _ hy))
theorem findL_some (nm : ByteArray) (x : DE) (rest : List DE) (hx : (x.2.2.2.toList == nm.toList) = true) : ∀ pre : List DE, (∀ y ∈ pre, (y.2.2.2.toList == nm.toList) = false) → findL nm (pre ++ x :: rest) = x.1
  | [], _ => by rw [List.nil_append, findL, if_pos hx]
  | y :: pre, h => by
    rw [List.cons_append, findL, h y (List.mem_cons_self ..), if_neg (by decide)]
    exact findL_some nm x rest hx pre (fun z hz => h z (List.mem_cons_of_mem _ hz))
theorem heap_kept {W W' : World} {row : Option Nat} {g : Nat} {cs : Array Value} {t : TypeId} (h : W.heap[g]? = some (.cells cs t (0, 0))) (hg : W.grownBy W' row) (hrow : ∀ r, row = some r → ∃ o : Obj, W.heap[r]? = some o ∧ o.isCells = false) : W'.heap[g]? = some (.cells cs t (0, 0)) :=
  (grownBy_keeps_cells hg hrow h rfl).trans h
theorem owns_kept {W W' : World} {row : Option Nat} {base n size : Nat} {e : TypeId} {v : Value} {xs : List Value} (h : W.ownsRow base e size v n xs) (hg : W.grownBy W' row) (hrow : ∀ r, row = some r → ∃ o : Obj, W.heap[r]? = some o ∧ o.isCells = false) : W'.ownsRow base e size v n xs := by
  obtain ⟨h1, h2⟩ := h
  refine ⟨h1, ?_⟩
  rcases h2 with h2 | ⟨g, cap, cur, h3, h4, h5, h6⟩
  · exact Or.inl h2
  · exact Or.inr ⟨g, cap, cur, h3, h4, heap_kept h5 hg hrow, h6⟩
/-- A world with three new blocks. -/
def W3 (w : World) (A0 : Option Addr) (n c0 : Nat) (nm : ByteArray) : World := ((w.alloc (.cells #[.string nm] 9)).alloc (.cells #[.int .i64 0] 3)).alloc (.cells #[.slice A0 n c0] 24)
theorem W3_size (w : World) (A0 : Option Addr) (n c0 : Nat) (nm : ByteArray) : (W3 w A0 n c0 nm).heap.size = w.heap.size + 3 := by simp [W3]
theorem W3_below (w : World) (A0 : Option Addr) (n c0 : Nat) (nm : ByteArray) : Below w.heap.size w (W3 w A0 n c0 nm) := (((Below.refl _ w).alloc (Nat.le_refl _) _).alloc (by simp) _).alloc (by simp; omega) _
theorem W3_0 (w : World) (A0 : Option Addr) (n c0 : Nat) (nm : ByteArray) : (W3 w A0 n c0 nm).heap[w.heap.size]? = some (.cells #[.string nm] 9 (0, 0)) := blk_alloc (blk_alloc (blk_new w _) _) _
theorem W3_1 (w : World) (A0 : Option Addr) (n c0 : Nat) (nm : ByteArray) : (W3 w A0 n c0 nm).heap[w.heap.size + 1]? = some (.cells #[.int .i64 0] 3 (0, 0)) := by
  have h := blk_alloc (blk_new (w.alloc (.cells #[.string nm] 9)) (.cells #[.int .i64 0] 3)) (.cells #[.slice A0 n c0] 24)
  rwa [World.size_alloc] at h
theorem W3_2 (w : World) (A0 : Option Addr) (n c0 : Nat) (nm : ByteArray) : (W3 w A0 n c0 nm).heap[w.heap.size + 1 + 1]? = some (.cells #[.slice A0 n c0] 24 (0, 0)) := by
  have h := blk_new ((w.alloc (.cells #[.string nm] 9)).alloc (.cells #[.int .i64 0] 3)) (.cells #[.slice A0 n c0] 24)
  rwa [World.size_alloc, World.size_alloc] at h
set_option maxHeartbeats 4000000 in
set_option maxRecDepth 100000 in
theorem find_any (k : Nat) (A0 : Option Addr) (c0 : Nat) (l0 : List Int) (nm : ByteArray) (L : List DE) (w : World) (hr0 : Kd.C (Kd.int .u8) w A0 l0.length l0) (hc0 : l0.length ≤ c0) (hL : entR k l0 8 0 = some L) :
    Calls Try.prog 18 #[.slice A0 l0.length c0, .string nm] w fun e w' => e = .returned (.int .i64 (findL nm L)) ∧ Below w.heap.size w w' := by
  refine (callsIn_wide (n := 4)).1 ?_
  refine callsIn_of_wp_marks Try.func18 rfl trivial ?_ rfl
  simp only [Try.ntmps18, List.size_toArray, List.length_cons, List.length_nil, Nat.reduceAdd, Nat.reduceSub, Array.replicate_succ, Array.replicate_zero, List.push_toArray, List.append_toArray, List.nil_append, List.cons_append]
  have HH := Aside0.mk (And.intro hr0 (And.intro hc0 hL))
  clear hr0 hc0 hL
  gi_wp2_with (refine ⟨trivial, ?_⟩; gi_at_call 38; refine (callsIn_wide.2 (entries_any A0 l0.length c0 _)).mono ?_; rintro e w' ⟨rfl, rfl⟩)
  change Code.wpIn _ _ _ _ _ _ (W3 w A0 l0.length c0 nm)
  obtain ⟨W0, hW0⟩ : ∃ W0, W0 = W3 w A0 l0.length c0 nm := ⟨_, rfl⟩
  have s0 := W3_size w A0 l0.length c0 nm
  have b0 := W3_below w A0 l0.length c0 nm
  have x0 := W3_0 w A0 l0.length c0 nm
  have x1 := W3_1 w A0 l0.length c0 nm
  have x2 := W3_2 w A0 l0.length c0 nm
  rw [← hW0] at s0 b0 x0 x1 x2 ⊢
  clear hW0
  refine wpIn_rangeFunc_ownH rfl (by omega) (gf := 41) (lb := #[.pointer (some ⟨w.heap.size + 1 + 1, 0, none⟩)]) rfl trivial (enters_of Try.func41 (by kernel_rfl) rfl)
    (entries_stops 3 (by omega) (w.heap.size + 1 + 1) k A0 c0 l0 L w W0 HH.out.1 HH.out.2.1 b0 x2 HH.out.2.2) keepG_t (keepG_b b0.size (by omega)) (Below.refl _ _) (fun _ => rfl)
    (fun pre W => ((∀ y ∈ pre, (y.2.2.2.toList == nm.toList) = false) ∧ W.heap[w.heap.size]? = some (.cells #[.string nm] 9 (0, 0)) ∧ W.heap[w.heap.size + 1]? = some (.cells #[.int .i64 0] 3 (0, 0))) ∧ Below w.heap.size W0 W)
    (fun c pre W => (c = .ret ∧ (∃ pre' x, pre = pre' ++ [x] ∧ (∀ y ∈ pre', (y.2.2.2.toList == nm.toList) = false) ∧ (x.2.2.2.toList == nm.toList) = true ∧ W.heap[w.heap.size + 1]? = some (.cells #[.int .i64 x.1] 3 (0, 0)))) ∧ Below w.heap.size W0 W)
    (OwnFrom.and (Own.from (fun s A B row hs hg hr => ⟨hs.1, heap_kept hs.2.1 hg hr, heap_kept hs.2.2 hg hr⟩) _) (ownFrom_below b0.size b0.size))
    (fun c => OwnFrom.and (Own.from (fun s A B row hs hg hr => ⟨hs.1, by obtain ⟨p, x, h1, h2, h3, h4⟩ := hs.2; exact ⟨p, x, h1, h2, h3, heap_kept h4 hg hr⟩⟩) _) (ownFrom_below b0.size b0.size))
    ⟨⟨by simp, x0, x1⟩, Below.refl _ _⟩
    (fun x a' W => ∃ Bx, W.heap[Bx]? = some (.cells #[.int .i64 x.2.1, .bool x.2.2.1, .string x.2.2.2] 23 (0, 0)) ∧ a' = { tmps := #[.slice A0 l0.length c0, .string nm, undef, .pointer (some ⟨w.heap.size, 0, none⟩), .pointer (some ⟨w.heap.size + 1, 0, none⟩), .int .i64 x.1, .pointer (some ⟨Bx, 0, none⟩), .slice A0 l0.length c0, .func (.func 41) #[] #[.pointer (some ⟨w.heap.size + 1 + 1, 0, none⟩)], .int .i64 x.1, .agg #[.int .i64 x.2.1, .bool x.2.2.1, .string x.2.2.2], undef, undef, undef, undef, undef], defers := [] })
    (fun x a' => Own.from (fun s A B row hs hg hr => by obtain ⟨Bx, h1, h2⟩ := hs; exact ⟨Bx, heap_kept h1 hg hr, h2⟩) _) ?assign ?body ?done ?stop
  case assign =>
    rintro l pre x W K ⟨⟨hne, hy0, hy1⟩, hB⟩ hK
    dsimp only [encE]
    gi_wp2
    refine hK _ _ ((KeepsOthers.alloc _ _).from _) ⟨(Below.refl _ W).alloc (by have := b0.size; have := hB.size; omega) _, Below.heap_alloc W _ _ (by have := hB.size; omega)⟩ ⟨⟨hne, blk_alloc hy0 _, blk_alloc hy1 _⟩, hB.alloc (by have := b0.size; have := hB.size; omega) _⟩ ⟨W.heap.size, blk_new W _, rfl⟩
  case body =>
    rintro l pre x a' W hl ⟨r, hr⟩ ⟨⟨hne, hy0, hy1⟩, hB⟩ ⟨Bx, bX, rfl⟩ hlt
    have k2 := (blk_cell bX 2).trans (show _ = some (Value.string x.2.2.2) from rfl)
    have k0 := (blk_cell hy0 0).trans (show _ = some (Value.string nm) from rfl)
    have k1 := (blk_cell hy1 0).trans (show _ = some (Value.int .i64 0) from rfl)
    have f1 := blk_frozen hy1 0
    have HY := Aside0.mk hy1
    have HZ := Aside0.mk hy0
    have HB := Aside0.mk hB
    have HN := Aside0.mk hne
    have SZ := Aside0.mk b0.size
    clear hy1 hy0 hB hne bX hr
    by_cases hx : (x.2.2.2.toList == nm.toList) = true
    · gi_wp2
      exact ⟨(KeepsOthers.setCell _ _ _).from _, ⟨rfl, pre, x, rfl, HN.out, hx, blk_put (cs := #[.int .i64 0]) HY.out 0 _ rfl⟩, HB.out.setCell (p := ⟨w.heap.size + 1, 0, none⟩) (by simp) _⟩
    · have hx' : (x.2.2.2.toList == nm.toList) = false := Bool.eq_false_iff.mpr hx
      clear hx
      gi_wp2
      refine ⟨(KeepsOthers.refl _).from _, ⟨Below.refl _ _, rfl⟩, ⟨fun y hy => ?_, HZ.out, HY.out⟩, HB.out⟩
      rcases List.mem_append.mp hy with h | h
      · exact HN.out y h
      · rw [List.mem_singleton.mp h]; exact hx'
  case done =>
    rintro D ys W hD rfl ⟨⟨hne, hy0, hy1⟩, hB⟩ hK
    have k1 := (blk_cell hy1 0).trans (show _ = some (Value.int .i64 0) from rfl)
    have f1 := blk_frozen hy1 0
    have HY := Aside0.mk hy1
    have HB := Aside0.mk hB
    have HN := Aside0.mk hne
    have HKK := Aside0.mk hK
    have SZ := Aside0.mk b0.size
    clear hy1 hy0 hB hne hK
    gi_wp2
    have hK' := (KeepsOthers.setCell W ⟨w.heap.size + 1, 0, none⟩ (.int .i64 (-1))).same D _ HKK.out rfl
    refine ⟨by simp, .inl ⟨_, _, rfl, run_takeDeferred hK', ?_⟩⟩
    have hc5 := cell_kept (World.cell?_setCell_same' W ⟨w.heap.size + 1, 0, none⟩ (.int .i64 (-1)) (by rw [k1]; rfl)) (grownBy_putObj' _ D (.deferred none)) (fun r e => by cases e; exact ⟨_, hK', rfl⟩)
    refine ⟨.int .i64 (-1), ?_, by rw [findL_none nm _ HN.out], (b0.trans (HB.out.setCell (p := ⟨w.heap.size + 1, 0, none⟩) (by simp) _)).trans (belowK_b (w := W0) SZ.out _ D _ _ hD hK' rfl rfl)⟩
    simp [results, Try.f18, go_sem, hc5]
  case stop =>
    rintro D c pre W hD hpre ⟨⟨rfl, p, x, rfl, hne, hx, hy1⟩, hB⟩ hK
    have k1 := (blk_cell hy1 0).trans (show _ = some (Value.int .i64 x.1) from rfl)
    have HB := Aside0.mk hB
    have HN := Aside0.mk hne
    have HKK := Aside0.mk hK
    have SZ := Aside0.mk b0.size
    clear hy1 hB hne hK
    gi_wp2
    refine ⟨by simp, .inl ⟨_, _, rfl, run_takeDeferred HKK.out, ?_⟩⟩
    have hc5 := cell_kept k1 (grownBy_putObj' _ D (.deferred none)) (fun r e => by cases e; exact ⟨_, HKK.out, rfl⟩)
    refine ⟨.int .i64 x.1, ?_, ?_, (b0.trans HB.out).trans (belowK_b (w := W0) SZ.out _ D _ _ hD HKK.out rfl rfl)⟩
    · simp [results, Try.f18, go_sem, hc5]
    · obtain ⟨rest, hrest⟩ := hpre
      rw [← hrest, List.append_assoc, List.singleton_append, findL_some nm x rest hx p HN.out]
def dirent_Find.f (k : Nat) (l0 : List Int) (a1 : ByteArray) : Option Int := (entR k l0 8 0).bind fun L => some (findL a1 L)
theorem dirent_Find.mono : ∀ b0 b1 k, LeO (dirent_Find.f k b0 b1) (dirent_Find.f (k + 1) b0 b1) := fun b0 b1 k => LeO.bind (entR.mono k b0 8 0) fun _ => LeO.refl _
theorem dirent_Find.calls (k : Nat) (A0 : Option Addr) (c0 : Nat) (l0 : List Int) (a1 : ByteArray) (r : Int) (w : World) (hr0 : Kd.C (Kd.int .u8) w A0 l0.length l0) (hc0 : l0.length ≤ c0) (h : dirent_Find.f k l0 a1 = some r) :
    Calls Try.prog 18 #[.slice A0 l0.length c0, .string a1] w fun e w' => e = .returned (.int .i64 r) ∧ Below w.heap.size w w' := by
  obtain ⟨L, hL, h⟩ := Option.bind_eq_some_iff.mp h
  obtain rfl := Option.some.inj h
  exact find_any k A0 c0 l0 a1 L w hr0 hc0 hL
/-- Entries as cells, and their places. -/
def flatE (L : List DE) : List Value := L.flatMap fun x => [.int .i64 x.2.1, .bool x.2.2.1, .string x.2.2.2]
def intsE (L : List DE) : List Value := L.map fun x => .int .i64 x.1
theorem flatE_snoc (L : List DE) (x : DE) : flatE (L ++ [x]) = flatE L ++ [.int .i64 x.2.1, .bool x.2.2.1, .string x.2.2.2] := by simp [flatE]
theorem intsE_snoc (L : List DE) (x : DE) : intsE (L ++ [x]) = intsE L ++ [.int .i64 x.1] := by simp [intsE]
/-- A world with three new blocks. -/
def V3 (w : World) (A0 : Option Addr) (n c0 : Nat) : World := ((w.alloc (.cells #[.slice none 0 0] 40)).alloc (.cells #[.slice none 0 0] 41)).alloc (.cells #[.slice A0 n c0] 24)
theorem V3_size (w : World) (A0 : Option Addr) (n c0 : Nat) : (V3 w A0 n c0).heap.size = w.heap.size + 3 := by simp [V3]
theorem V3_below (w : World) (A0 : Option Addr) (n c0 : Nat) : Below w.heap.size w (V3 w A0 n c0) := (((Below.refl _ w).alloc (Nat.le_refl _) _).alloc (by simp) _).alloc (by simp; omega) _
theorem V3_0 (w : World) (A0 : Option Addr) (n c0 : Nat) : Boxed (V3 w A0 n c0) w.heap.size 40 (.slice none 0 0) := blk_alloc (blk_alloc (blk_new w _) _) _
theorem V3_1 (w : World) (A0 : Option Addr) (n c0 : Nat) : Boxed (V3 w A0 n c0) (w.heap.size + 1) 41 (.slice none 0 0) := by
  have h := blk_alloc (blk_new (w.alloc (.cells #[.slice none 0 0] 40)) (.cells #[.slice none 0 0] 41)) (.cells #[.slice A0 n c0] 24)
  rwa [World.size_alloc] at h
theorem V3_2 (w : World) (A0 : Option Addr) (n c0 : Nat) : (V3 w A0 n c0).heap[w.heap.size + 1 + 1]? = some (.cells #[.slice A0 n c0] 24 (0, 0)) := by
  have h := blk_new ((w.alloc (.cells #[.slice none 0 0] 40)).alloc (.cells #[.slice none 0 0] 41)) (.cells #[.slice A0 n c0] 24)
  rwa [World.size_alloc, World.size_alloc] at h
theorem infoE : (Try.prog.info? 23).map (fun i => (i.zero, i.size, i.bytes)) = some (some (.agg #[.int .i64 0, .bool false, .string ⟨#[]⟩]), 3, 32) := by kernel_rfl
theorem infoI : (Try.prog.info? 3).map (fun i => (i.zero, i.size, i.bytes)) = some (some (.int .i64 0), 1, 8) := by kernel_rfl
theorem new_cells (w : World) (cs : Array Value) (t : TypeId) (j : Nat) (u : Value) (h : cs.toList[j]? = some u) : (w.alloc (.cells cs t (0, 0))).cell? ((⟨w.heap.size, 0, none⟩ : Addr).add j) = some u := by
  rw [add_plain, blk_cell (blk_new w _) j]
  simpa using h
theorem new_cells' (w : World) (cs : Array Value) (t : TypeId) (s : Nat) (hs : s = w.heap.size) (j : Nat) (u : Value) (h : cs.toList[j]? = some u) : (w.alloc (.cells cs t (0, 0))).cell? ((⟨s, 0, none⟩ : Addr).add j) = some u := by
  subst hs
  exact new_cells w cs t j u h
set_option maxHeartbeats 8000000 in
set_option maxRecDepth 100000 in
theorem list_any (k : Nat) (A0 : Option Addr) (c0 : Nat) (l0 : List Int) (L : List DE) (w : World) (hl : l0.length = 256) (hr0 : Kd.C (Kd.int .u8) w A0 l0.length l0) (hc0 : l0.length ≤ c0) (hL : entR k l0 8 0 = some L) :
    Calls Try.prog 21 #[.slice A0 l0.length c0] w fun e w' => ∃ v5 v6 : Value, e = .returned (.tuple #[v5, v6, .int .i64 0]) ∧ w'.ownsRow w.heap.size 23 3 v5 L.length (flatE L) ∧ w'.ownsRow w.heap.size 3 1 v6 L.length (intsE L) ∧ Below w.heap.size w w' := by
  refine (callsIn_wide (n := 4)).1 ?_
  refine callsIn_of_wp_marks Try.func21 rfl trivial ?_ rfl
  simp only [Try.ntmps21, List.size_toArray, List.length_cons, List.length_nil, Nat.reduceAdd, Nat.reduceSub, Array.replicate_succ, Array.replicate_zero, List.push_toArray, List.append_toArray, List.nil_append, List.cons_append]
  have hb0 : ((l0.length : Int) == 256) = true := by rw [beq_iff_eq]; omega
  have hb1 : ((l0.length : Int) != 256) = false := by rw [bne_eq_false_iff_eq]; omega
  have HH := Aside0.mk (And.intro hr0 (And.intro hc0 hL))
  clear hr0 hc0 hL hl
  obtain ⟨iE, hiE, hE0, hE1, hE2⟩ := info_parts infoE
  obtain ⟨iI, hiI, hI0, hI1, hI2⟩ := info_parts infoI
  have IE := Aside0.mk (And.intro hiE (And.intro hE0 (And.intro hE1 hE2)))
  have II := Aside0.mk (And.intro hiI (And.intro hI0 (And.intro hI1 hI2)))
  clear hiE hE0 hE1 hE2 hiI hI0 hI1 hI2
  gi_wp2_with (refine ⟨trivial, ?_⟩; gi_at_call 38; refine (callsIn_wide.2 (entries_any A0 l0.length c0 _)).mono ?_; rintro e w' ⟨rfl, rfl⟩)
  change Code.wpIn _ _ _ _ _ _ (V3 w A0 l0.length c0)
  obtain ⟨W0, hW0⟩ : ∃ W0, W0 = V3 w A0 l0.length c0 := ⟨_, rfl⟩
  have s0 := V3_size w A0 l0.length c0
  have b0 := V3_below w A0 l0.length c0
  have x0 := V3_0 w A0 l0.length c0
  have x1 := V3_1 w A0 l0.length c0
  have x2 := V3_2 w A0 l0.length c0
  rw [← hW0] at s0 b0 x0 x1 x2 ⊢
  clear hW0
  refine wpIn_rangeFunc_ownH rfl (by omega) (gf := 41) (lb := #[.pointer (some ⟨w.heap.size + 1 + 1, 0, none⟩)]) rfl trivial (enters_of Try.func41 (by kernel_rfl) rfl)
    (entries_stops 3 (by omega) (w.heap.size + 1 + 1) k A0 c0 l0 L w W0 HH.out.1 HH.out.2.1 b0 x2 HH.out.2.2) keepG_t (keepG_b b0.size (by omega)) (Below.refl _ _) (fun _ => rfl)
    (fun pre W => (∃ v5 v6, Boxed W w.heap.size 40 v5 ∧ Boxed W (w.heap.size + 1) 41 v6 ∧ W.ownsRow w.heap.size 23 3 v5 pre.length (flatE pre) ∧ W.ownsRow w.heap.size 3 1 v6 pre.length (intsE pre) ∧ W.heap[w.heap.size + 1 + 1]? = some (.cells #[.slice A0 l0.length c0] 24 (0, 0))) ∧ Below w.heap.size W0 W)
    (fun _ _ _ => False)
    (OwnFrom.and (Own.from (fun s A B row hs hg hr => by
      obtain ⟨v5, v6, h5, h6, r5, r6, hx⟩ := hs
      exact ⟨v5, v6, heap_kept h5 hg hr, heap_kept h6 hg hr, owns_kept r5 hg hr, owns_kept r6 hg hr, heap_kept hx hg hr⟩) _) (ownFrom_below b0.size b0.size))
    (fun _ _ _ _ _ hs _ _ => hs)
    ⟨⟨_, _, x0, x1, World.ownsRow_nil _ _ _ _, World.ownsRow_nil _ _ _ _, x2⟩, Below.refl _ _⟩
    (fun x a' W => ∃ Bx, W.heap[Bx]? = some (.cells #[.int .i64 x.2.1, .bool x.2.2.1, .string x.2.2.2] 23 (0, 0)) ∧ a' = { tmps := #[.slice A0 l0.length c0, undef, .slice none 0 0, .slice none 0 0, .int .i64 0, .pointer (some ⟨w.heap.size, 0, none⟩), .pointer (some ⟨w.heap.size + 1, 0, none⟩), .int .i64 x.1, .pointer (some ⟨Bx, 0, none⟩), .slice A0 l0.length c0, .int .i64 l0.length, .bool false, .slice A0 l0.length c0, .func (.func 41) #[] #[.pointer (some ⟨w.heap.size + 1 + 1, 0, none⟩)], .int .i64 x.1, .agg #[.int .i64 x.2.1, .bool x.2.2.1, .string x.2.2.2], undef, undef, undef, undef, undef, undef, undef, undef, undef, undef], defers := [] })
    (fun x a' => Own.from (fun s A B row hs hg hr => by obtain ⟨Bx, h1, h2⟩ := hs; exact ⟨Bx, heap_kept h1 hg hr, h2⟩) _) ?assign ?body ?done ?stop
  case assign =>
    rintro l pre x W K ⟨⟨v5, v6, h5, h6, r5, r6, hx⟩, hB⟩ hK
    dsimp only [encE]
    gi_wp2
    refine hK _ _ ((KeepsOthers.alloc _ _).from _) ⟨(Below.refl _ W).alloc (by have := b0.size; have := hB.size; omega) _, Below.heap_alloc W _ _ (by have := hB.size; omega)⟩ ⟨⟨v5, v6, blk_alloc h5 _, blk_alloc h6 _, r5.alloc _, r6.alloc _, blk_alloc hx _⟩, hB.alloc (by have := b0.size; have := hB.size; omega) _⟩ ⟨W.heap.size, blk_new W _, rfl⟩
  case body =>
    rintro l pre x a' W hl ⟨r, hr⟩ ⟨⟨v5, v6, h5, h6, r5, r6, hx⟩, hB⟩ ⟨Bx, bX, rfl⟩ hlt
    have k0 := (blk_cell bX 0).trans (show _ = some (Value.int .i64 x.2.1) from rfl)
    have k1 := (blk_cell bX 1).trans (show _ = some (Value.bool x.2.2.1) from rfl)
    have k2 := (blk_cell bX 2).trans (show _ = some (Value.string x.2.2.2) from rfl)
    have q5 := h5.cell
    have H5 := Aside0.mk h5
    have H6 := Aside0.mk h6
    have R5 := Aside0.mk r5
    have R6 := Aside0.mk r6
    have HX := Aside0.mk (show Boxed W (w.heap.size + 1 + 1) 24 (.slice A0 l0.length c0) from hx)
    have HB := Aside0.mk hB
    have HT := Aside0.mk hlt
    have SZ := Aside0.mk b0.size
    clear h5 h6 r5 r6 hx hB hlt bX hr
    gi_wp2_with (first
      | (gi_at_builtin; go_loud (refine wpListIn_append_own _ rfl _ _ 40 rfl w.heap.size 23 iE (.agg #[.int .i64 0, .bool false, .string ⟨#[]⟩]) 3 32 Try.underlying40 IE.out.1 IE.out.2.1 IE.out.2.2.1 IE.out.2.2.2 rfl (by decide) _ _ _ rfl (R5.out.alloc _) ⟨W.heap.size, 0, none⟩ 1 1 [.int .i64 x.2.1, .bool x.2.2.1, .string x.2.2.2] rfl rfl (fun j u hj => new_cells W #[.int .i64 x.2.1, .bool x.2.2.1, .string x.2.2.2] 23 j u hj) (by simp [Value.oneCell']) (by have := HT.out; unfold maxLen; omega) (by have := HT.out; omega) (by have := HB.out.size; have := SZ.out; simp; omega) ?_; intro v' w1 hown' hgrow _; obtain ⟨g', cap', rfl⟩ := ownsRow_succ hown'; obtain ⟨hv1, hv2, hr2, hk2, hb2⟩ := H5.out.appended (by decide) R5.out (by have := HB.out.size; have := SZ.out; omega) (Nat.le_refl _) hown' hgrow; have hc1 := hv1.cell; have hf1 := hv1.frozen; have h61 := (H6.out.alloc _).kept hgrow (H6.out.not_row (by decide) R5.out); have h62 := h61.other (B' := w.heap.size) (by omega) (.slice (some ⟨g', 0, none⟩) (pre.length + 1) cap'); have r61 := (R6.out.alloc _).kept hgrow (own_type_ne R6.out R5.out (by decide)); have r62 := r61.kept (grownBy_setCell' w1 w.heap.size (.slice (some ⟨g', 0, none⟩) (pre.length + 1) cap')) (.inr (hv1.not_row (by decide) r61).symm); have q6 := h61.cell; have hx1 := ((HX.out.alloc _).kept hgrow (HX.out.not_row (by decide) R5.out)).other (B' := w.heap.size) (by omega) (.slice (some ⟨g', 0, none⟩) (pre.length + 1) cap'); have HX2 := Aside0.mk hx1; clear hx1; have V2 := Aside0.mk hv2; have RR2 := Aside0.mk hr2; have K2 := Aside0.mk hk2; have B2 := Aside0.mk hb2; have H62 := Aside0.mk h62; have R62 := Aside0.mk r62; clear hv2 hr2 hk2 hb2 h62 r62 hown' hgrow r61 h61 hv1))
      | (gi_at_builtin; go_loud (refine wpListIn_append_own _ rfl _ _ 41 rfl w.heap.size 3 iI (.int .i64 0) 1 8 Try.underlying41 II.out.1 II.out.2.1 II.out.2.2.1 II.out.2.2.2 rfl (by decide) _ _ _ rfl (R62.out.alloc _) ⟨w1.heap.size, 0, none⟩ 1 1 [.int .i64 x.1] rfl rfl (fun j u hj => new_cells' _ #[.int .i64 x.1] 3 _ (by simp) j u hj) (by simp [Value.oneCell']) (by have := HT.out; unfold maxLen; omega) (by have := HT.out; omega) (by have := HB.out.size; have := SZ.out; have := B2.out.size; simp at this ⊢; omega) ?_; intro v'' w3 hown' hgrow _; obtain ⟨g2, cap2, rfl⟩ := ownsRow_succ hown'; obtain ⟨hv1, hv2, hr2, hk2, hb2⟩ := H62.out.appended (by decide) R62.out (by have := HB.out.size; have := SZ.out; have := B2.out.size; omega) (by omega) hown' hgrow; have hc3 := hv1.cell; have hf3 := hv1.frozen; have V31 := (V2.out.alloc _).kept hgrow (V2.out.not_row (by decide) R62.out); have V3 := Aside0.mk (V31.other (B' := w.heap.size + 1) (by omega) (.slice (some ⟨g2, 0, none⟩) (pre.length + 1) cap2)); have RR31 := (RR2.out.alloc _).kept hgrow (own_type_ne RR2.out R62.out (by decide)); have RR3 := Aside0.mk (RR31.kept (grownBy_setCell' w3 (w.heap.size + 1) (.slice (some ⟨g2, 0, none⟩) (pre.length + 1) cap2)) (.inr (hv1.not_row (by decide) RR31).symm)); have HX3 := Aside0.mk (((HX2.out.alloc _).kept hgrow (HX2.out.not_row (by decide) R62.out)).other (B' := w.heap.size + 1) (by omega) (.slice (some ⟨g2, 0, none⟩) (pre.length + 1) cap2)); have V4 := Aside0.mk hv2; have RR4 := Aside0.mk hr2; have K4 := Aside0.mk hk2; have B4 := Aside0.mk hb2; clear hv2 hr2 hk2 hb2 hown' hgrow RR31 V31 hv1)))
    refine ⟨(K2.out.trans K4.out).from _, ⟨B2.out.trans B4.out, (show _ = _ from HX3.out).trans (show _ = _ from HX.out).symm⟩, ⟨_, _, V3.out, V4.out, ?_, ?_, HX3.out⟩, HB.out.trans (B2.out.trans B4.out)⟩
    · rw [List.length_append, flatE_snoc]; exact RR3.out
    · rw [List.length_append, intsE_snoc]; exact RR4.out
  case done =>
    rintro D ys W hD rfl ⟨⟨v5, v6, h5, h6, r5, r6, hx⟩, hB⟩ hK
    have q5 := h5.cell
    have q6 := h6.cell
    have p5 := (show Boxed W.drew w.heap.size 40 v5 from blk_drew h5).cell
    have p6 := (show Boxed W.drew (w.heap.size + 1) 41 v6 from blk_drew h6).cell
    have R5 := Aside0.mk r5
    have R6 := Aside0.mk r6
    have HB := Aside0.mk hB
    have HKK := Aside0.mk hK
    have SZ := Aside0.mk b0.size
    clear h5 h6 r5 r6 hx hB hK
    gi_wp2
    gi_region
    all_goals gi_wp2
    all_goals
      have hK' : W.drew.heap[D]? = some (.deferred (some [])) := HKK.out
      refine ⟨by simp, .inl ⟨_, _, rfl, run_takeDeferred hK', ?_⟩⟩
      refine ⟨.tuple #[v5, v6, .int .i64 0], by simp [results, Try.f21, go_sem], v5, v6, rfl, ?_, ?_, ?_⟩
      · exact ownsRow_putObj (show W.drew.ownsRow _ _ _ _ _ _ from R5.out) _ hK' rfl
      · exact ownsRow_putObj (show W.drew.ownsRow _ _ _ _ _ _ from R6.out) _ hK' rfl
      · exact (below_drew (b0.trans HB.out)).trans (belowK_b (w := W0) SZ.out W.drew D _ _ hD hK' rfl rfl)
  case stop =>
    rintro D c pre W _ _ h _
    exact h.elim
theorem list_no (A0 : Option Addr) (n c0 : Nat) (w : World) (hl : ¬ n = 256) :
    Calls Try.prog 21 #[.slice A0 n c0] w fun e w' => e = .returned (.tuple #[.slice none 0 0, .slice none 0 0, .int .i64 4]) ∧ Below w.heap.size w w' := by
  have hb0 : ((n : Int) == 256) = false := by rw [beq_eq_false_iff_ne]; omega
  have hb1 : ((n : Int) != 256) = true := by rw [bne_iff_ne]; omega
  clear hl
  go_enter Try.func21, Try.ntmps21
  go_wp2
  go_ret3
  exact ⟨rfl, Below.refl _ _⟩
def ofDE (x : DE) : S23 := ⟨x.2.1, x.2.2.1, x.2.2.2⟩
theorem reps_flat (w : World) (base : Nat) (ok : Nat → Prop) (L : List DE) : Reps (k23.M w base ok) 3 (L.map ofDE) (flatE L) := by
  suffices h : ∀ M : List DE, Reps (k23.M w base ok) 3 (M.reverse.map ofDE) (flatE M.reverse) by
    have := h L.reverse
    rwa [List.reverse_reverse] at this
  intro M
  induction M with
  | nil => exact Reps.none _ _
  | cons x M ih =>
    rw [List.reverse_cons, List.map_append, flatE_snoc]
    exact ih.snoc (k23_mkM w base ok (ofDE x)) rfl
theorem R_of_flat {w : World} {base : Nat} {v : Value} {L : List DE} (h : w.ownsRow base 23 3 v L.length (flatE L)) : Kd.R k23 23 w base (fun _ => True) v (L.map ofDE) :=
  ⟨fun _ _ => trivial, flatE L, by rw [List.length_map]; exact h, reps_flat _ _ _ _⟩
theorem R_of_ints {w : World} {base : Nat} {v : Value} {L : List DE} (h : w.ownsRow base 3 1 v L.length (intsE L)) : Kd.R (Kd.int .i64) 3 w base (fun _ => True) v (L.map (·.1)) :=
  Kd.R_of_own (enc := Value.int .i64) (h1 := fun _ => rfl) (by
    have e : encs (Value.int .i64) (L.map (·.1)) = intsE L := by simp [encs, intsE]
    rw [List.length_map, e]
    exact h) (fun _ _ => trivial)
def dirent_List.f (k : Nat) (l0 : List Int) : Option (List S23 × List Int × Int) := if l0.length = 256 then (entR k l0 8 0).bind fun L => some (L.map ofDE, L.map (·.1), 0) else some ([], [], 4)
theorem dirent_List.mono : ∀ b0 k, LeO (dirent_List.f k b0) (dirent_List.f (k + 1) b0) := fun b0 k => LeO.ite (LeO.bind (entR.mono k b0 8 0) fun _ => LeO.refl _) (LeO.refl _)
theorem dirent_List.calls (k : Nat) (A0 : Option Addr) (c0 : Nat) (l0 : List Int) (r1 : List S23) (r2 : List Int) (r3 : Int) (w : World) (hr0 : Kd.C (Kd.int .u8) w A0 l0.length l0) (hc0 : l0.length ≤ c0) (h : dirent_List.f k l0 = some (r1, r2, r3)) :
    Calls Try.prog 21 #[.slice A0 l0.length c0] w fun e w' => ∃ v0_ v1_ : Value, e = .returned (.tuple #[v0_, v1_, .int .i64 r3]) ∧ Kd.R k23 23 w' w.heap.size (fun _ => True) v0_ r1 ∧ Kd.R (Kd.int .i64) 3 w' w.heap.size (fun _ => True) v1_ r2 ∧ Below w.heap.size w w' := by
  unfold dirent_List.f at h
  by_cases hl : l0.length = 256
  · rw [if_pos hl] at h
    obtain ⟨L, hL, h⟩ := Option.bind_eq_some_iff.mp h
    cases h
    refine (list_any k A0 c0 l0 L w hl hr0 hc0 hL).mono ?_
    rintro e w' ⟨v5, v6, rfl, h5, h6, hb⟩
    exact ⟨v5, v6, rfl, R_of_flat h5, R_of_ints h6, hb⟩
  · rw [if_neg hl] at h
    cases h
    refine (list_no A0 l0.length c0 w hl).mono ?_
    rintro e w' ⟨rfl, hb⟩
    exact ⟨_, _, rfl, Kd.R_nil _ _ _ _ _, Kd.R_nil _ _ _ _ _, hb⟩
end Go.Proofs.Ytjlacfhmjjjpiaa.P
