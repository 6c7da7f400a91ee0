/-
Contracts of functions that the print does not take, proved by hand: sums, cuts, what is laid, what is lent.
Conditions: none.
-/
import Derived.Test.YtnlneiiccoakjaaProg
import Derived.Below
import Derived.Deep.Draws
import Derived.Deep.AppendLies
import Derived.Maps.AppendAt
import Derived.OwnWalk
import Derived.Laws.BytesArg
import Derived.Laws.MakeOwn
import Derived.Laws.OwnMore
import Derived.Deep.OwnRows
import Derived.Tactics
import Derived.Lib.ConvBytes
import Derived.Laws.Slices
import Derived.WalkKit
import Derived.KernelRfl
import Derived.RowKit3
import Derived.Deep.LoopGhost
import Derived.Deep.QuietTactic
import Derived.BigQuiet
import Derived.WideLaws
import Derived.Deep.DeepCutAuto
import Derived.Deep.CutBlock
import Derived.Deep.RegionHeld3
import Derived.Laws.Rows
import Derived.Lib.AppendStr
import Derived.ArgAppend
import Derived.Laws.IdiomCopy
import Derived.OrdersHeld
import Derived.Laws.BitsLemmas
import Derived.RowKit
import Derived.Test.YtnlneiiccoakjaaWWords
import Derived.Laws.CopyOwn
import Derived.StillTailTactics
import Derived.Test.YtnlneiiccoakjaaCrc
namespace Go.Proofs.Ytnlneiiccoakjaa.P
open Go.RowKit Go.Proofs.YtnlneiiccoakjaaW.PrintWords Go.Proofs.YtnlneiiccoakjaaW.PrintLast Go.Proofs.YtnlneiiccoakjaaW.PrintMore
attribute [local go_sem] max2_int min2_int max_two min_two max_three min_three max_four min_four
set_option linter.unusedVariables false
set_option linter.unusedSimpArgs false
def ent (j : Nat) : Int := ((Crc.steps 4 (BitVec.ofNat 32 j)).toNat : Int)
def tab (i : Nat) : Array Value := ((List.range 16).map fun j => Value.int .u32 (if j < i then ent j else 0)).toArray
theorem tab_size (i : Nat) : (tab i).size = 16 := by simp [tab]
theorem tab_get (i j : Nat) (h : j < 16) : (tab i)[j]? = some (.int .u32 (if j < i then ent j else 0)) := by
  simp [tab, h]
theorem tab_zero : tab 0 = #[.int .u32 0, .int .u32 0, .int .u32 0, .int .u32 0, .int .u32 0, .int .u32 0, .int .u32 0, .int .u32 0, .int .u32 0, .int .u32 0, .int .u32 0, .int .u32 0, .int .u32 0, .int .u32 0, .int .u32 0, .int .u32 0] := by rfl
theorem tab_succ (i : Nat) (h : i < 16) : (tab i).setIfInBounds i (.int .u32 (ent i)) = tab (i + 1) := by
  apply Array.ext_getElem?
  intro j
  rw [Array.getElem?_setIfInBounds]
  by_cases hj : j < 16
  · rw [tab_get _ _ hj]
    by_cases e : i = j
    · subst e
      rw [tab_get _ _ hj]
      simp [tab_size, hj]
    · rw [if_neg e, tab_get _ _ hj]
      have : (j < i + 1) = (j < i) := by simp; omega
      simp only [this]
  · have h1 : (tab i)[j]? = none := by rw [Array.getElem?_eq_none]; rw [tab_size]; omega
    have h2 : (tab (i+1))[j]? = none := by rw [Array.getElem?_eq_none]; rw [tab_size]; omega
    rw [h1, h2]
    by_cases e : i = j
    · omega
    · rw [if_neg e]
theorem ofNat_toNat (s : Crc.W) : BitVec.ofInt 32 (s.toNat : Int) = s := by
  apply BitVec.eq_of_toInt_eq
  rw [BitVec.toInt_ofInt]
  rw [BitVec.toInt_eq_toNat_bmod]
theorem u32_wrap (s : Crc.W) : IntKind.u32.wrap (s.toNat : Int) = s.toNat := by
  have := s.isLt
  unfold IntKind.wrap
  simp [IntKind.bits, IntKind.signed]
  omega
theorem bits_xor (s t : Crc.W) : Go.bits .xor .u32 (s.toNat : Int) (t.toNat : Int) = ((s ^^^ t).toNat : Int) := by
  unfold Go.bits
  simp only [IntKind.bits]
  rw [ofNat_toNat, ofNat_toNat]
  exact u32_wrap _
theorem bits_and (s t : Crc.W) : Go.bits .and .u32 (s.toNat : Int) (t.toNat : Int) = ((s &&& t).toNat : Int) := by
  unfold Go.bits
  simp only [IntKind.bits]
  rw [ofNat_toNat, ofNat_toNat]
  exact u32_wrap _
theorem shr_int (s : Crc.W) (k : Nat) : (s.toNat : Int) / (2 ^ k : Nat) = ((s >>> k).toNat : Int) := by
  rw [BitVec.toNat_ushiftRight, Nat.shiftRight_eq_div_pow]
  rfl
theorem step_int (s : Crc.W) : Go.bits .xor .u32 ((s.toNat : Int) / 2) ((3988292384 * Go.bits .and .u32 (s.toNat : Int) 1) % 4294967296) = ((Crc.step s).toNat : Int) := by
  have h1 : Go.bits .and .u32 (s.toNat : Int) 1 = ((s &&& 1#32).toNat : Int) := bits_and s 1#32
  have h2 : (s.toNat : Int) / (2 : Int) = ((s >>> 1).toNat : Int) := by have := shr_int s 1; exact this
  have h3 : s &&& 1#32 = if s.getLsbD 0 then 1#32 else 0#32 := by
    ext i hi
    rw [BitVec.getElem_and]
    rcases Nat.eq_zero_or_pos i with rfl | hp
    · rw [← BitVec.getLsbD_eq_getElem]
      cases s.getLsbD 0 <;> simp
    · have h1 : (1#32)[i] = false := by
        revert i; decide
      rw [h1, Bool.and_false]
      cases s.getLsbD 0
      · simp
      · exact h1.symm
  rw [h1, h2, h3]
  have h4 : (3988292384 * (((if s.getLsbD 0 then 1#32 else 0#32 : Crc.W)).toNat : Int)) % 4294967296 = (((if s.getLsbD 0 then Crc.poly else 0#32 : Crc.W)).toNat : Int) := by
    cases s.getLsbD 0 <;> decide
  rw [h4, bits_xor]
  rfl
theorem take_rd (l : List Int) (k : Nat) (h : k < l.length) : l.take (k + 1) = l.take k ++ [rd l (k : Int)] := by
  rw [List.take_succ_eq_append_getElem h]
  simp [rd, h]
theorem xor_byte (s : Crc.W) (c : Int) : Go.bits .xor .u32 (s.toNat : Int) (c % 4294967296) = ((s ^^^ BitVec.ofInt 32 c).toNat : Int) := by
  have h : (BitVec.ofInt 32 (c % 4294967296)) = BitVec.ofInt 32 c := by
    apply BitVec.eq_of_toNat_eq
    rw [BitVec.toNat_ofInt, BitVec.toNat_ofInt]
    omega
  unfold Go.bits
  simp only [IntKind.bits]
  rw [ofNat_toNat, h]
  exact u32_wrap _
theorem half_int (s : Crc.W) : Go.bits .xor .u32 ((s.toNat : Int) / 16) (ent (s &&& 15#32).toNat) = ((Crc.steps 4 s).toNat : Int) := by
  have h2 : (s.toNat : Int) / (16 : Int) = ((s >>> 4).toNat : Int) := by have := shr_int s 4; exact this
  unfold ent
  rw [h2, BitVec.ofNat_toNat, BitVec.setWidth_eq, bits_xor, ← Crc.half]
theorem and_15 (s : Crc.W) : Go.bits .and .u32 (s.toNat : Int) 15 = (((s &&& 15#32).toNat : Nat) : Int) := bits_and s 15#32
theorem lt_16 (s : Crc.W) : (s &&& 15#32).toNat < 16 := by
  rw [BitVec.toNat_and]
  exact Nat.lt_of_le_of_lt Nat.and_le_right (by decide)
theorem not_int (s : Crc.W) : Go.bits .xor .u32 IntKind.u32.max (s.toNat : Int) = ((~~~ s).toNat : Int) := by
  have h : IntKind.u32.max = ((0xffffffff#32 : Crc.W).toNat : Int) := by decide
  rw [h, bits_xor]
  rw [show (0xffffffff#32 : Crc.W) = BitVec.allOnes 32 from by decide, BitVec.allOnes_xor]
theorem ret_int {k : IntKind} {a b : Int} (h : a = b) : Ending.returned (.int k a) = .returned (.int k b) := by rw [h]
set_option maxRecDepth 100000 in
theorem sum_any (A0 : Option Addr) (c0 : Nat) (l0 : List Int) (w : World) (hr0 : Kd.C (Kd.int .u8) w A0 l0.length l0) (hc0 : l0.length ≤ c0) (hn : l0.length ≤ 9223372036854775807) :
    Calls Try.prog 33 #[.slice A0 l0.length c0] w fun e w' => e = .returned (.int .u32 (Crc.sum l0)) ∧ Below w.heap.size w w' := by
  have HR0 := Aside0.mk hr0
  have HC0 := Aside0.mk hc0
  clear hr0 hc0
  go_enter Try.func33, Try.ntmps33
  go_wp2
  go_loopw [9] (fun v9 wr => ∃ i : Nat, i ≤ 16 ∧ v9 = .int .i64 i ∧ Aside0 (wr.heap[w.heap.size]? = some (.cells (tab i) 71 (0, 0))) ∧ Aside0 (Below w.heap.size w wr)) (fun v9 _ => 16 - (intOf v9).toNat)
  case atStart => exact ⟨0, by omega, rfl, ⟨by rw [tab_zero]; exact heap_alloc_new _ _⟩, ⟨(Below.refl _ _).alloc (Nat.le_refl _) _⟩⟩
  case round =>
    obtain ⟨i, hi, rfl, HG, HB⟩ := hrel
    by_cases hlt : i < 16
    · go_wp2
      go_loop [5, 14] (fun v5 v14 => ∃ j : Nat, j ≤ 4 ∧ v14 = .int .i64 j ∧ v5 = .int .u32 ((Crc.steps j (BitVec.ofNat 32 i)).toNat : Int)) (fun _ v14 => 4 - (intOf v14).toNat)
      case atStart => exact ⟨0, by omega, rfl, by simp only [Crc.steps]; rw [BitVec.toNat_ofNat, Nat.mod_eq_of_lt (by omega)]⟩
      case round =>
        obtain ⟨j, hj, rfl, rfl⟩ := hrel
        obtain ⟨s, hs⟩ : ∃ s, s = Crc.steps j (BitVec.ofNat 32 i) := ⟨_, rfl⟩
        rw [← hs]
        have HS := Aside0.mk hs
        clear hs
        by_cases hl2 : j < 4
        · go_wp2
          go_round
          case rel => exact ⟨j + 1, by omega, by go_num, by rw [Crc.steps_succ, ← HS.out, ← step_int]⟩
          case measure => simp [intOf]; omega
        · obtain rfl : j = 4 := by omega
          have hc := (blk_cell HG.out i).trans (tab_get i i hlt)
          have hf := blk_frozen HG.out i
          go_wp2
          go_roundw
          case rel => exact ⟨i + 1, by omega, by go_num, ⟨by rw [← tab_succ i hlt]; unfold ent; rw [← HS.out]; exact blk_set HG.out _ _⟩, ⟨below_set HB.out (Nat.le_refl _)⟩⟩
          case measure => simp [intOf]; omega
    · obtain rfl : i = 16 := by omega
      go_wp2
      go_loop [6, 29] (fun v6 v29 => ∃ k : Nat, k ≤ l0.length ∧ v29 = .int .i64 k ∧ v6 = .int .u32 ((Crc.run 0xffffffff#32 (l0.take k)).toNat : Int)) (fun _ v29 => l0.length - (intOf v29).toNat)
      case atStart => exact ⟨0, by omega, rfl, rfl⟩
      case round =>
        obtain ⟨k, hk, rfl, rfl⟩ := hrel
        obtain ⟨s, hs⟩ : ∃ s, s = Crc.run 0xffffffff#32 (l0.take k) := ⟨_, rfl⟩
        rw [← hs]
        have HS := Aside0.mk hs
        clear hs
        by_cases hl2 : k < l0.length
        · obtain ⟨ad, e1, hx⟩ := Kd.at_int (Kd.C_below HR0.out HB.out) (k : Int) (by omega) (by omega)
          subst e1
          rw [Int.toNat_natCast] at hx
          obtain ⟨cc, hcc⟩ : ∃ cc, cc = rd l0 (k : Int) := ⟨_, rfl⟩
          rw [← hcc] at hx
          have HCC := Aside0.mk hcc
          clear hcc
          obtain ⟨s1, hs1⟩ : ∃ s1, s1 = s ^^^ BitVec.ofInt 32 cc := ⟨_, rfl⟩
          obtain ⟨m1, hm1⟩ : ∃ m, m = (s1 &&& 15#32).toNat := ⟨_, rfl⟩
          obtain ⟨s2, hs2⟩ : ∃ s2, s2 = Crc.steps 4 s1 := ⟨_, rfl⟩
          obtain ⟨m2, hm2⟩ : ∃ m, m = (s2 &&& 15#32).toNat := ⟨_, rfl⟩
          obtain ⟨s3, hs3⟩ : ∃ s3, s3 = Crc.steps 4 s2 := ⟨_, rfl⟩
          have l1 : m1 < 16 := by rw [hm1]; exact lt_16 _
          have l2 : m2 < 16 := by rw [hm2]; exact lt_16 _
          have f1 := xor_byte s cc
          rw [← hs1] at f1
          have f2 := and_15 s1
          rw [← hm1] at f2
          have f3 := half_int s1
          rw [← hs2, ← hm1] at f3
          have f4 := and_15 s2
          rw [← hm2] at f4
          have f5 := half_int s2
          rw [← hs3, ← hm2] at f5
          have c1 := (blk_cell HG.out m1).trans (tab_get 16 m1 l1)
          rw [if_pos l1] at c1
          have c2 := (blk_cell HG.out m2).trans (tab_get 16 m2 l2)
          rw [if_pos l2] at c2
          have HS3 : Aside0 (s3 = Crc.byte s cc) := ⟨by rw [hs3, hs2, hs1]; rfl⟩
          clear hs1 hm1 hs2 hm2 hs3
          go_wp2
          go_round
          case rel => exact ⟨k + 1, by omega, by go_num, by rw [take_rd l0 k hl2, Crc.run_append, ← HS.out, ← HCC.out]; rw [HS3.out]; rfl⟩
          case measure => simp [intOf]; omega
        · obtain rfl : k = l0.length := by omega
          have f6 := not_int s
          obtain ⟨z, hz⟩ : ∃ z : Int, z = ((~~~ s).toNat : Int) := ⟨_, rfl⟩
          rw [← hz] at f6
          rw [List.take_length] at HS
          have HZ : Aside0 (z = Crc.sum l0) := ⟨by rw [Crc.sum, ← HS.out]; exact hz⟩
          clear hz
          go_wp2
          go_ret
          exact ⟨ret_int HZ.out, HB.out⟩
theorem info5 : (Try.prog.info? 5).map (fun i => (i.zero, i.size, i.bytes)) = some (some (.int .u8 0), 1, 1) := by kernel_rfl
theorem u8_mod (x : Int) : IntKind.u8.wrap x = x % 256 := by
  unfold IntKind.wrap
  simp [IntKind.bits, IntKind.signed]
theorem own_of_block {w : World} {g base n : Nat} {cur : List Value} {e : TypeId} {xs : List Value} (h : w.heap[g]? = some (.cells cur.toArray e (0, 0))) (hb : base ≤ g) (hx : xs.length = n) (ht : cur.take n = xs) (hm : cur.length ≤ maxLen) :
    w.ownsRow base e 1 (.slice (some ⟨g, 0, none⟩) n cur.length) n xs := by
  have hl : n ≤ cur.length := by
    have := congrArg List.length ht
    rw [List.length_take, hx] at this
    omega
  exact ⟨by omega, .inr ⟨g, cur.length, cur.toArray, rfl, hb, h, hl, hm, by simp, by simpa using ht⟩⟩
theorem R_of_block {w : World} {g base : Nat} {k : IntKind} {cur : List Value} {e : TypeId} {xs : List Int} {ok : Nat → Prop} (h : w.heap[g]? = some (.cells cur.toArray e (0, 0))) (hb : base ≤ g) (ht : cur.take xs.length = nums k xs) (hm : cur.length ≤ maxLen) (hok : ok g) :
    Kd.R (Kd.int k) e w base ok (.slice (some ⟨g, 0, none⟩) xs.length cur.length) xs :=
  Kd.R_of_own (own_of_block (xs := nums k xs) h hb (nums_length k xs) ht hm) (fun j hj => by
    have : g = j := by simpa [Value.ownBlock] using hj
    subst this; exact hok)
theorem splice_all {α : Type} (L cs : List α) (h : cs.length = L.length) : splice L 0 cs = cs := by
  simp [splice, h]
theorem reads_cells {w : World} {A : Option Addr} {n : Nat} {xs : List Int} {k : IntKind} (h : ReadsOf (Value.int k) 0 w A n xs) (m : Nat) (hm : m ≤ n) (hp : 0 < m) : ∃ ad, A = some ad ∧ ∀ j v, (nums k (xs.take m))[j]? = some v → w.cell? (ad.add j) = some v := by
  obtain ⟨ad, rfl, _⟩ := h.at_ 0 (by omega) (by omega)
  refine ⟨ad, rfl, fun j v hj => ?_⟩
  have hl : j < m := by
    have := (List.getElem?_eq_some_iff.1 hj).1
    simp [nums] at this
    omega
  obtain ⟨ad', e, hc⟩ := h.at_ (j : Int) (by omega) (by omega)
  injection e with e
  subst e
  rw [Int.toNat_natCast] at hc
  rw [hc]
  have hx := h.1
  simp only [nums, List.getElem?_map, List.getElem?_take, if_pos hl] at hj
  rw [List.getElem?_eq_getElem (by omega)] at hj
  simp only [Option.map_some] at hj
  rw [← hj]
  simp [rdOf, List.getD_eq_getElem?_getD, List.getElem?_eq_getElem (show j < xs.length by omega)]
/-- An append within the capacity, whatever the source: nil, empty, or not. -/
theorem app_fits {P : Program} (W : World) {ops : Array Oper} {rest : List Oper} {o : Oper} {a : Act} {Q : Exit → Act → World → Prop}
    (hgd : o.guard = none) (s x : Operand) (t : TypeId) (ho : o.op = .call { callee := .builtin .append, args := #[s, x], argTypes := #[t, t] })
    (base : Nat) (e : TypeId) (i : TypeInfo) (ht : P.underlying t = some (.slice e)) (hi : P.info? e = some i) (hz1 : i.size = 1)
    (g k cap : Nat) (xs : List Value) (ys : List Int) (ik : IntKind) (A : Option Addr) (c : Nat) (hs : a.eval s = .slice (some ⟨g, 0, none⟩) k cap) (hx : a.eval x = .slice A ys.length c)
    (hown : W.ownsRow base e 1 (.slice (some ⟨g, 0, none⟩) k cap) k xs) (HR : ReadsOf (Value.int ik) 0 W A ys.length ys) (b1 : k + ys.length ≤ cap)
    (hK : ∀ w', w'.ownsRow base e 1 (.slice (some ⟨g, 0, none⟩) (k + ys.length) cap) (k + ys.length) (xs ++ nums ik ys) → W.grownBy w' (some g) → wpList P ops Q rest (a.put o.dst (.slice (some ⟨g, 0, none⟩) (k + ys.length) cap)) w') :
    wpList P ops Q (o :: rest) a W := by
  rcases A with _ | ad
  · have h0 : ys.length = 0 := by
      rcases Nat.eq_zero_or_pos ys.length with h0 | h0
      · exact h0
      · obtain ⟨ad, h, _⟩ := HR.2.2 h0
        cases h
    obtain rfl : ys = [] := List.eq_nil_of_length_eq_zero h0
    have hnc : k ≤ cap := own_le hown
    have hrun : (Builtin.append_ #[t, t] o.type #[.slice (some ⟨g, 0, none⟩) k cap, .slice none 0 c]).run P W = .ok (.slice (some ⟨g, 0, none⟩) k cap) W := by
      simp [Builtin.append_, run_underlying ht, sizeOf, typeInfo, hi, Builtin.lenOf, Builtin.firstCells, hnc, storeCells]
    refine wpList_plain hgd fun K hK' => ?_
    unfold Oper.wp execOp
    simp only [List.length_nil] at hx
    simp only [ho, resolve, invoke, builtin, Sem.run_bind, Sem.run_pure, Result.andThen_ok, List.map_toArray, List.map_cons, List.map_nil, hs, hx, hrun]
    exact hK' _ _ (hK W (by simpa [nums] using hown) (World.grownBy.refl W _))
  · refine wpList_append_fits W hgd s x t ho base e i 1 ht hi hz1 g k cap xs hs hown ad ys.length c (nums ik ys) hx (by simp [nums]) (fun j u hu => ?_) (fun u hu => ?_) b1 hK
    · have hj : j < ys.length := by
        have := (List.getElem?_eq_some_iff.1 hu).1
        simpa [nums] using this
      obtain ⟨ad', h1, h2⟩ := reads_cells HR ys.length (Nat.le_refl _) (by omega)
      injection h1 with h1
      subst h1
      exact h2 j u (by rw [List.take_length]; exact hu)
    · simp only [nums, List.mem_map] at hu
      obtain ⟨q, _, rfl⟩ := hu
      rfl
/-- What lies behind lent bytes: eight marks, and no more. -/
def tail8 : List Int := [165, 165, 165, 165, 165, 165, 165, 165]
def Tail (w : World) (v : Value) (l : List Int) : Prop := ∃ g, v = .slice (some ⟨g, 0, none⟩) l.length (l.length + 8) ∧ w.heap[g]? = some (.cells (nums .u8 (l ++ tail8)).toArray 5 (0, 0))
theorem lit_reads (W : World) (e : TypeId) (ik : IntKind) (xs : List Int) (hm : xs.length ≤ 9223372036854775807) : ReadsOf (Value.int ik) 0 (W.alloc (.cells (nums ik xs).toArray e)) (some ⟨W.heap.size, 0, none⟩) xs.length xs := by
  obtain ⟨A, c, h1, h2⟩ := own_reads_of (enc := Value.int ik) (d := (0 : Int)) (own_lit W 0 e ik xs (Nat.zero_le _) hm)
  injection h1 with h1
  subst h1
  exact h2
theorem block_of_own {w : World} {base g cap : Nat} {e : TypeId} {xs : List Value} (h : w.ownsRow base e 1 (.slice (some ⟨g, 0, none⟩) cap cap) cap xs) : w.heap[g]? = some (.cells xs.toArray e (0, 0)) := by
  rcases h.2 with ⟨h', _⟩ | ⟨g', cap', cur, h', _, hh, _, _, hsz, hx⟩
  · cases h'
  · injection h' with h1 h2 h3
    injection h1 with h1
    injection h1 with h1
    subst h1 h3
    rw [hh]
    have : cur.toList = xs := by
      rw [← hx, List.take_of_length_le]
      rw [Array.length_toList]
      omega
    rw [← this]
set_option maxRecDepth 100000 in
theorem lent_any (A0 : Option Addr) (c0 : Nat) (l0 : List Int) (w : World) (hr0 : Kd.C (Kd.int .u8) w A0 l0.length l0) (hn : l0.length ≤ 140737488355328) :
    Calls Try.prog 8 #[.slice A0 l0.length c0] w fun e w' => ∃ v0_ : Value, e = .returned v0_ ∧ Kd.R (Kd.int .u8) 5 w' w.heap.size (fun _ => True) v0_ l0 ∧ Below w.heap.size w w' ∧ Tail w' v0_ l0 := by
  obtain ⟨i0, hi, hz0, hz1, hz2⟩ := info_parts info5
  have HR0 := Aside0.mk (Kd.reads_of_C (d := (0 : Int)) hr0)
  clear hr0
  go_enter Try.func8, Try.ntmps8
  go_wp2_with (first
    | (at_make; refine wpList_make_own _ rfl _ _ 22 rfl w.heap.size 5 i0 (.int .u8 0) 1 Try.underlying22 hi hz0 hz1 .i64 .i64 _ (l0.length + 8) rfl rfl (by omega) (by rw [hz2]; omega) (by unfold maxLen; omega) (Nat.le_refl _) ?_; intro w1 hown1 hgrow1)
    | (refine app_fits _ rfl (.tmp 8) (.tmp 9) 22 rfl w.heap.size 5 i0 Try.underlying22 hi hz1 w.heap.size 0 (l0.length + 8) [] l0 .u8 A0 c0 rfl rfl hown1 ?hrd ?hfit ?_; rotate_right; intro w2 hown2 hgrow2; simp only [Nat.zero_add, List.nil_append] at hown2)
    | (refine app_fits _ rfl (.tmp 11) (.tmp 12) 22 rfl w.heap.size 5 i0 Try.underlying22 hi hz1 w.heap.size l0.length (l0.length + 8) (nums .u8 l0) tail8 .u8 (some ⟨w2.heap.size, 0, none⟩) 8 rfl rfl (hown2.alloc _) ?hrdB ?hfitB ?_; rotate_right; intro w3 hown3 hgrow3))
  case hrd => exact HR0.out.below ((Below.refl _ _).grown hgrow1 (Nat.le_refl _) (fun k hk => by cases hk))
  case hfit => omega
  case hrdB => exact lit_reads w2 5 .u8 tail8 (by decide)
  case hfitB => simp [tail8]
  go_ret
  have hb1 : Below w.heap.size w w1 := (Below.refl _ _).grown hgrow1 (Nat.le_refl _) (fun k hk => by cases hk)
  have hb2 : Below w.heap.size w w2 := hb1.grown hgrow2 hb1.size (fun k hk => by injection hk with hk; omega)
  have hb3 : Below w.heap.size w (w2.alloc (.cells (nums .u8 tail8).toArray 5)) := below_alloc hb2 _
  have hb4 : Below w.heap.size w w3 := hb3.grown hgrow3 hb3.size (fun k hk => by injection hk with hk; omega)
  have hh := block_of_own hown3
  have ht : nums .u8 l0 ++ nums .u8 tail8 = nums .u8 (l0 ++ tail8) := (nums_append _ _ _).symm
  rw [ht] at hh
  have hr := R_of_block (ok := fun _ => True) (base := w.heap.size) (xs := l0) hh (Nat.le_refl _) (by rw [← ht, List.take_append_of_le_length (by rw [nums_length]; exact Nat.le_refl _), List.take_of_length_le (by rw [nums_length]; exact Nat.le_refl _)]) (by rw [nums_length, List.length_append]; simp [tail8, maxLen]; omega) trivial
  have hl : (nums .u8 (l0 ++ tail8)).length = l0.length + 8 := by rw [nums_length, List.length_append]; rfl
  rw [hl] at hr
  exact ⟨_, rfl, hr, hb4, _, rfl, hh⟩
theorem str_tail (l : List Int) : strOfNums l ++ (⟨#[165, 165, 165, 165, 165, 165, 165, 165]⟩ : ByteArray) = strOfNums (l ++ tail8) := by
  apply ByteArray.ext
  apply Array.toList_inj.1
  rw [ByteArray.data_append, Array.toList_append, strOfNums_data, strOfNums_data, List.map_append]
  rfl
set_option maxRecDepth 100000 in
theorem kept_any (A0 : Option Addr) (A1 : Option Addr) (c1 : Nat) (l : List Int) (w : World) (hC0 : Kd.C (Kd.int .u8) w A0 l.length l) (hC1 : Kd.C (Kd.int .u8) w A0 (l ++ tail8).length (l ++ tail8)) (hr1 : Kd.C (Kd.int .u8) w A1 l.length l) (hn : l.length ≤ 140737488355328) :
    Calls Try.prog 13 #[.slice A0 l.length (l.length + 8), .slice A1 l.length c1] w fun e w' => e = .returned (.bool true) ∧ Below w.heap.size w w' := by
  obtain ⟨i0, hi, hz0, hz1, hz2⟩ := info_parts info5
  have hlt : (l ++ tail8).length = l.length + 8 := by rw [List.length_append]; rfl
  rw [hlt] at hC1
  have hcv1 := Kd.C_string (P := Try.prog) (A := A0) (c := l.length + 8) Try.underlying22 Try.underlying5 Try.underlying9 hC0
  have hcv2 := Kd.C_string (P := Try.prog) (A := A1) (c := c1) Try.underlying22 Try.underlying5 Try.underlying9 hr1
  have hcv3 := Kd.C_string (P := Try.prog) (A := A0) (c := l.length + 8) Try.underlying22 Try.underlying5 Try.underlying9 hC1
  have hs := str_tail l
  have hsl : ∀ W : World, (Instr.slice 22 (.slice A0 l.length (l.length + 8)) none (some (.int .i64 ((l.length : Int) + 8))) none).run Try.prog W = .ok (.slice A0 (l.length + 8) (l.length + 8)) W := by
    intro W
    have hel : Try.prog.elem 22 = 5 := by simp [Program.elem, Try.underlying22]
    have hu : Try.prog.underlying 22 = some (.slice (Try.prog.elem 22)) := by rw [hel]; exact Try.underlying22
    have ha : (A0.map fun x => x.add 0) = A0 := by cases A0 <;> simp [Addr.add]
    have hj : (((l.length : Int) + 8)).toNat = l.length + 8 := by omega
    rw [run_slice_h W 22 A0 l.length (l.length + 8) hu .i64 ((l.length : Int) + 8) (by omega) (by omega), hel, hj]
    simp [sizeOf, typeInfo, hi, hz1, sliced, Result.andThen, ha]
  have hz : (strOfNums l).size = l.length := strOfNums_size l
  have hD1 := Aside0.mk hC1
  have hD2 := Aside0.mk hr1
  clear hr1 hC0 hC1 hi hz0 hz1 hz2
  go_enter Try.func13, Try.ntmps13
  go_wp2
  have hcv4 := fun m => Kd.C_string (P := Try.prog) (A := A0) (c := l.length + 8) Try.underlying22 Try.underlying5 Try.underlying9 (Kd.C_below hD1.out (pw_below_drewN (Below.refl _ w) m))
  have hcv5 := fun m => Kd.C_string (P := Try.prog) (A := A1) (c := c1) Try.underlying22 Try.underlying5 Try.underlying9 (Kd.C_below hD2.out (pw_below_drewN (Below.refl _ w) m))
  clear hcv1 hcv2 hcv3
  have hw : IntKind.i64.wrap ((l.length : Int) + 8) = (l.length : Int) + 8 := IntWalk.i64_in _ (by omega)
  go_quiet (fail)
  go_wp2
  go_ret
  exact ⟨rfl, pw_below_drewN (Below.refl _ w) _⟩
def num_Sum.f (l0 : List Int) : Option Int := if l0.length ≤ 140737488355328 then some (Crc.sum l0) else none
theorem num_Sum.calls (A0 : Option Addr) (c0 : Nat) (l0 : List Int) (r : Int) (w : World) (hr0 : Kd.C (Kd.int .u8) w A0 l0.length l0) (hc0 : l0.length ≤ c0) (h : num_Sum.f l0 = some r) :
    Calls Try.prog 33 #[.slice A0 l0.length c0] w fun e w' => e = .returned (.int .u32 r) ∧ Below w.heap.size w w' := by
  unfold num_Sum.f at h
  by_cases hn : l0.length ≤ 140737488355328
  · rw [if_pos hn] at h
    obtain rfl := Option.some.inj h
    exact sum_any A0 c0 l0 w hr0 hc0 (by omega)
  · rw [if_neg hn] at h; cases h
/-- Lent bytes: a row of the call's own, and what lies behind it. (The names are those of the print's form Q: it is taken in its place.) -/
def whole : Value → Value
  | .slice A _ c => .slice A c c
  | v => v
def TQ.Q (_d : Kd Int) (e : Nat) (w : World) (base : Nat) (ok : Nat → Prop) (v : Value) (xs : List Int) : Prop :=
  Kd.R (Kd.int .u8) e w base ok v xs ∧ Kd.R (Kd.int .u8) e w base ok (whole v) (xs ++ tail8)
namespace TQ
variable {d : Kd Int} {e base : Nat} {w W w1 : World} {ok ok' : Nat → Prop} {u v : Value} {xs : List Int}
theorem Q_step (h : TQ.Q d e w base ok v xs) (hm : ∀ k, ok k → k < w.heap.size → w1.heap[k]? = w.heap[k]?) : TQ.Q d e w1 base ok v xs := ⟨Kd.R_step h.1 hm, Kd.R_step h.2 hm⟩
theorem Q_below (h : TQ.Q d e w base ok v xs) (hb : Below w.heap.size w w1) : TQ.Q d e w1 base ok v xs := ⟨Kd.R_below h.1 hb, Kd.R_below h.2 hb⟩
theorem Q_alloc (h : TQ.Q d e w base ok v xs) (o : Obj) : TQ.Q d e (w.alloc o) base ok v xs := Q_below h (below_alloc (Below.refl _ _) o)
theorem Q_drew (h : TQ.Q d e w base ok v xs) : TQ.Q d e w.drew base ok v xs := Q_below h (below_drew (Below.refl _ _))
theorem Q_drewN (h : TQ.Q d e w base ok v xs) (n : Nat) : TQ.Q d e (w.drewN n) base ok v xs := Q_below h (pw_below_drewN (Below.refl _ _) n)
theorem Q_mono (h : TQ.Q d e w base ok v xs) (hok : ∀ k, ok k → ok' k) : TQ.Q d e w base ok' v xs := ⟨Kd.R_mono h.1 hok, Kd.R_mono h.2 hok⟩
theorem Q_lower {base' : Nat} (h : TQ.Q d e w base ok v xs) (hb : base' ≤ base) : TQ.Q d e w base' ok v xs := ⟨Kd.R_lower h.1 hb, Kd.R_lower h.2 hb⟩
theorem Q_lt (h : TQ.Q d e w base ok v xs) : ∀ k, v.ownBlock = some k → k < w.heap.size := Kd.R_lt h.1
theorem Q_base (h : TQ.Q d e w base ok v xs) : ∀ k, v.ownBlock = some k → base ≤ k := Kd.R_base h.1
theorem Q_new' (h : TQ.Q d e w1 W.heap.size ok v xs) (hlt : ∀ k, u.ownBlock = some k → k < W.heap.size) : TQ.Q d e w1 W.heap.size (fun k => ok k ∧ some k ≠ u.ownBlock) v xs := ⟨Kd.R_new' h.1 hlt, Kd.R_new' h.2 hlt⟩
theorem Q_slice (h : TQ.Q d e w base ok v xs) : ∃ A c, v = .slice A xs.length c ∧ xs.length ≤ c := by
  obtain ⟨A, c, rfl⟩ := Kd.R_slice h.1
  exact ⟨A, c, rfl, (Kd.R_reads' h.1).2.1⟩
theorem Q_reads' {A : Option Addr} {n c : Nat} (h : TQ.Q d e w base ok (.slice A n c) xs) : n = xs.length ∧ n ≤ c ∧ Kd.C (Kd.int .u8) w A xs.length xs := Kd.R_reads' h.1
end TQ
def leveeref01_Lent.f (l0 : List Int) : Option (List Int) := if l0.length ≤ 140737488355328 then some l0 else none
/-- Beside what a print tells: what lies behind the bytes. -/
theorem leveeref01_Lent.calls (A0 : Option Addr) (c0 : Nat) (l0 : List Int) (r : List Int) (w : World) (hr0 : Kd.C (Kd.int .u8) w A0 l0.length l0) (_hc0 : l0.length ≤ c0) (h : leveeref01_Lent.f l0 = some r) :
    Calls Try.prog 8 #[.slice A0 l0.length c0] w fun e w' => ∃ v0_ : Value, e = .returned (v0_) ∧ TQ.Q (Kd.int .u8) 5 w' w.heap.size (fun _ => True) v0_ r ∧ Below w.heap.size w w' := by
  unfold leveeref01_Lent.f at h
  by_cases hn : l0.length ≤ 140737488355328
  · rw [if_pos hn] at h
    obtain rfl := Option.some.inj h
    refine (lent_any A0 c0 l0 w hr0 hn).mono ?_
    rintro e w' ⟨v, rfl, hr, hb, g, rfl, hg⟩
    have hl : (nums .u8 (l0 ++ tail8)).length = l0.length + 8 := by rw [nums_length, List.length_append]; rfl
    have hg0 : w.heap.size ≤ g := Kd.R_base hr g rfl
    have r2 := R_of_block (ok := fun _ => True) (base := w.heap.size) (xs := l0 ++ tail8) hg hg0 (by rw [List.take_of_length_le]; rw [nums_length]; exact Nat.le_refl _) (by rw [hl]; unfold maxLen; omega) trivial
    rw [hl] at r2
    have hl2 : (l0 ++ tail8).length = l0.length + 8 := by rw [List.length_append]; rfl
    rw [hl2] at r2
    exact ⟨_, rfl, ⟨hr, r2⟩, hb⟩
  · rw [if_neg hn] at h; cases h
def leveeref01_Kept.f (l0 l1 : List Int) : Option Bool := if l0.length ≤ 140737488355328 ∧ l0 = l1 then some true else none
theorem leveeref01_Kept.calls (A0 : Option Addr) (c0 : Nat) (l0 : List Int) (A1 : Option Addr) (c1 : Nat) (l1 : List Int) (r : Bool) (w : World) (hr0 : Kd.C (Kd.int .u8) w A0 l0.length l0) (_hc0 : l0.length ≤ c0) (hr1 : Kd.C (Kd.int .u8) w A1 l1.length l1) (_hc1 : l1.length ≤ c1) (ht : ∃ base ok, TQ.Q (Kd.int .u8) 5 w base ok (.slice A0 l0.length c0) l0) (h : leveeref01_Kept.f l0 l1 = some r) :
    Calls Try.prog 13 #[.slice A0 l0.length c0, .slice A1 l1.length c1] w fun e w' => e = .returned (.bool r) ∧ Below w.heap.size w w' := by
  unfold leveeref01_Kept.f at h
  by_cases hn : l0.length ≤ 140737488355328 ∧ l0 = l1
  · rw [if_pos hn] at h
    obtain rfl := Option.some.inj h
    obtain ⟨hn, rfl⟩ := hn
    obtain ⟨base, ok, h1, h2⟩ := ht
    have hl2 : (l0 ++ tail8).length = l0.length + 8 := by rw [List.length_append]; rfl
    obtain ⟨hc, _, hC⟩ := Kd.R_reads' (show Kd.R (Kd.int .u8) 5 w base ok (.slice A0 c0 c0) (l0 ++ tail8) from h2)
    rw [hl2] at hc
    subst hc
    exact kept_any _ A1 c1 l0 w hr0 hC hr1 hn
  · rw [if_neg hn] at h; cases h
/-- A number's first bytes. -/
def putV (v : Int) (n : Nat) : List Int := (List.range n).map fun i => v / 256 ^ i % 256
theorem putV_length (v : Int) (n : Nat) : (putV v n).length = n := by simp [putV]
theorem putV_succ (v : Int) (n : Nat) : putV v (n + 1) = putV v n ++ [v / 256 ^ n % 256] := by simp [putV, List.range_succ]
theorem splice_snoc (cur : List Value) (off i : Nat) (l : List Value) (u : Value) (hl : l.length = i) (hi : off + i < cur.length) :
    (splice cur off l).toArray.setIfInBounds (off + i) u = (splice cur off (l ++ [u])).toArray := by
  rw [List.setIfInBounds_toArray]
  congr 1
  unfold splice
  rw [List.append_assoc, List.set_append_right _ _ (by simp; omega)]
  rw [List.set_append_right _ _ (by simp; omega)]
  simp only [List.length_take, hl, List.length_append, List.length_singleton]
  congr 2
  rw [show off + i - min off cur.length - i = 0 by omega, List.drop_eq_getElem_cons (by omega)]
  rw [List.set_cons_zero]
  rfl
theorem splice_at (cur : List Value) (off i : Nat) (l : List Value) (hl : l.length = i) (hi : off + i < cur.length) : (splice cur off l).toArray[off + i]? = some (cur[off + i]'hi) := by
  rw [List.getElem?_toArray]
  unfold splice
  rw [List.getElem?_append_right (by simp; omega), List.getElem?_append_right (by simp; omega), List.getElem?_drop]
  simp only [List.length_take]
  rw [show off + l.length + (off + i - min off cur.length - l.length) = off + i by omega, List.getElem?_eq_getElem hi]
set_option maxRecDepth 100000 in
theorem put_cells (g off n c : Nat) (cur : List Value) (e : TypeId) (v : Int) (w : World) (hg : w.heap[g]? = some (.cells cur.toArray e (0, 0))) (hfit : off + n ≤ cur.length) (hn : n ≤ 140737488355328) :
    Calls Try.prog 32 #[.slice (some ⟨g, off, none⟩) n c, .int .u64 v] w fun e' w' => e' = .returned (.tuple #[]) ∧ w'.heap[g]? = some (.cells (splice cur off (nums .u8 (putV v n))).toArray e (0, 0)) ∧ Below g w w' := by
  have HG := Aside0.mk hg
  clear hg
  go_enter Try.func32, Try.ntmps32
  go_wp2
  go_loopw [1, 7] (fun v1 v7 wr => ∃ i : Nat, i ≤ n ∧ v1 = .int .u64 (v / 256 ^ i) ∧ v7 = .int .i64 i ∧ Aside0 (wr.heap[g]? = some (.cells (splice cur off (nums .u8 (putV v i))).toArray e (0, 0))) ∧ Aside0 (Below g w wr)) (fun _ v7 _ => n - (intOf v7).toNat)
  case atStart => exact ⟨0, by omega, by simp, rfl, ⟨by simpa [putV, nums, splice] using HG.out⟩, ⟨Below.refl _ _⟩⟩
  case round =>
    obtain ⟨i, hi, rfl, rfl, H1, H2⟩ := hrel
    by_cases hlt : i < n
    · have hc := (blk_cell H1.out (off + i)).trans (splice_at cur off i _ (by rw [nums_length, putV_length]) (by omega))
      have hf := blk_frozen H1.out (off + i)
      have hs := blk_put H1.out (off + i) (.int .u8 (v / 256 ^ i % 256)) (splice_snoc cur off i _ _ (by rw [nums_length, putV_length]) (by omega))
      have HS := Aside0.mk hs
      clear hs
      go_wp2
      go_roundw
      case rel => exact ⟨i + 1, by omega, by rw [Int.pow_succ, ← Int.ediv_ediv_of_nonneg (by exact Int.pow_nonneg (by decide))]; try rfl, by go_num, ⟨by rw [putV_succ, nums_append]; exact HS.out⟩, ⟨H2.out.setCell (Nat.le_refl _) _⟩⟩
      case measure => simp [intOf]; omega
    · obtain rfl : i = n := by omega
      go_wp2
      first | go_end0 | ((try simp only [Exit.inBlock, Exit.then]); refine bodyPost_ret (results_none rfl _ _ _) rfl ?_)
      exact ⟨rfl, H1.out, H2.out⟩
end Go.Proofs.Ytnlneiiccoakjaa.P
