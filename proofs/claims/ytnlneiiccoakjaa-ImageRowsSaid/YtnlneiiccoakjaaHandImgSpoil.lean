/-
leveeref01.Spoil over bytes of whatever owner: these bytes alone are written, and bytes stay bytes.
Conditions: none.
-/
import Derived.Test.YtnlneiiccoakjaaHandImgGiven
import Derived.Test.YtnlneiiccoakjaaPx3
namespace Go.Proofs.Ytnlneiiccoakjaa.P
open Go.RowKit Go.Proofs.YtnlneiiccoakjaaW.PrintWords Go.Proofs.YtnlneiiccoakjaaW.PrintLast Go.Proofs.YtnlneiiccoakjaaW.PrintMore
attribute [local go_sem] max2_int min2_int max_two min_two max_three min_three max_four min_four
set_option linter.unusedVariables false
set_option linter.unusedSimpArgs false
/-- n bytes from the begin of block b on. -/
def TB (w : World) (b n : Nat) : Prop := ∃ cs, w.heap[b]? = some (.cells cs 5 (0, 0)) ∧ ∀ i, i < n → ∃ x, cs[i]? = some (.int .u8 x)
theorem TB.set {w : World} {b n : Nat} (h : TB w b n) (g i : Nat) (x : Int) : TB (w.setCell ⟨g, i, none⟩ (.int .u8 x)) b n := by
  obtain ⟨cs, hc, hx⟩ := h
  by_cases e : b = g
  · subst e
    refine ⟨_, blk_set hc i _, fun j hj => ?_⟩
    obtain ⟨y, hy⟩ := hx j hj
    rw [Array.getElem?_setIfInBounds]
    split
    · subst i
      rw [if_pos (Array.getElem?_eq_some_iff.mp hy).1]
      exact ⟨x, rfl⟩
    · exact ⟨y, hy⟩
  · exact ⟨cs, (Below.heap_setCell w ⟨g, i, none⟩ _ b e).trans hc, hx⟩
theorem TB.move {w w1 : World} {b n : Nat} (h : TB w b n) (hb : w1.heap[b]? = w.heap[b]?) : TB w1 b n := by
  obtain ⟨cs, hc, hx⟩ := h
  exact ⟨cs, hb.trans hc, hx⟩
theorem TB.lt {w : World} {b n : Nat} (h : TB w b n) : b < w.heap.size := by
  obtain ⟨cs, hc, _⟩ := h
  exact blk_lt hc
/-- The bytes at A alone may be others. -/
structure SpK (w w' : World) (S : Nat → Prop) : Prop where
  bel : Below 0 w w'
  blk : ∀ k, k < w.heap.size → ¬ S k → w'.heap[k]? = w.heap[k]?
  tb : ∀ g m, TB w g m → TB w' g m
theorem SpK.refl (w : World) (S : Nat → Prop) : SpK w w S := ⟨Below.refl _ _, fun _ _ _ => rfl, fun _ _ h => h⟩
theorem SpK.trans {a b c : World} {S S' : Nat → Prop} (h : SpK a b S) (k : SpK b c S') (hs : ∀ x, S' x → S x) : SpK a c S :=
  ⟨h.bel.trans k.bel, fun x hx hn => (k.blk x (Nat.lt_of_lt_of_le hx h.bel.size) (fun q => hn (hs x q))).trans (h.blk x hx hn), fun g m t => k.tb g m (h.tb g m t)⟩
theorem SpK.put {w w1 : World} {S : Nat → Prop} (h : SpK w w1 S) {g : Nat} (hg : S g) (i : Nat) (x : Int) : SpK w (w1.setCell ⟨g, i, none⟩ (.int .u8 x)) S :=
  ⟨h.bel.setCell (Nat.zero_le _) _, fun k hk hn => (Below.heap_setCell w1 ⟨g, i, none⟩ _ k (fun e => hn (by rw [show k = g from e]; exact hg))).trans (h.blk k hk hn), fun _ _ t => (h.tb _ _ t).set g i x⟩
theorem SpK.below {w0 w w' : World} {S : Nat → Prop} {B : Nat} (h : SpK w w' S) (hb : Below B w0 w) (hB : B ≤ w.heap.size) (hs : ∀ k, k < B → ¬ S k) : Below B w0 w' :=
  hb.trans ⟨h.bel.os, h.bel.tape, h.bel.output, h.bel.size, fun k hk => h.blk k (Nat.lt_of_lt_of_le hk hB) (hs k hk)⟩
set_option maxHeartbeats 4000000 in
set_option maxRecDepth 100000 in
theorem spoil_any (A : Option Addr) (n c : Nat) (w : World) (h : 0 < n → ∃ b, A = some ⟨b, 0, none⟩ ∧ TB w b n) (hn : n ≤ 140737488355328) :
    Calls Try.prog 17 #[.slice A n c] w fun e w' => e = .returned (.tuple #[]) ∧ SpK w w' (fun k => ∃ a, A = some a ∧ k = a.block) := by
  have HH := Aside0.mk h
  clear h
  go_enter Try.func17, Try.ntmps17
  go_wp2
  go_loopw [2] (fun v2 wr => ∃ i : Nat, i ≤ n ∧ v2 = .int .i64 i ∧ Aside0 (SpK w wr (fun k => ∃ a, A = some a ∧ k = a.block))) (fun v2 _ => n - (intOf v2).toNat)
  case atStart => exact ⟨0, by omega, rfl, ⟨SpK.refl _ _⟩⟩
  case round =>
    obtain ⟨i, hi, rfl, HS⟩ := hrel
    by_cases hlt : i < n
    · obtain ⟨b, eA, hT⟩ := HH.out (by omega)
      subst eA
      obtain ⟨cs, hcs, hx⟩ := HS.out.tb b n hT
      obtain ⟨x, hx⟩ := hx i hlt
      have hc := (blk_cell hcs i).trans hx
      have hf := blk_frozen hcs i
      clear hcs hx hT
      go_wp2
      go_roundw
      case rel => exact ⟨i + 1, by omega, by go_num, ⟨HS.out.put ⟨_, rfl, rfl⟩ _ _⟩⟩
      case measure => simp [intOf]; omega
    · go_wp2
      first | go_end0 | ((try simp only [Exit.inBlock, Exit.then]); refine bodyPost_ret (results_none rfl _ _ _) rfl ?_)
      exact ⟨rfl, HS.out⟩
/-- A row's bytes, if it has some. -/
theorem TB_of_R {w : World} {base : Nat} {ok : Nat → Prop} {v : Value} {l : List Int} (h : (Kd.int .u8).R 5 w base ok v l) : ∃ A c, v = .slice A l.length c ∧ (0 < l.length → ∃ b, A = some ⟨b, 0, none⟩ ∧ ok b ∧ base ≤ b ∧ b < w.heap.size ∧ TB w b l.length) := by
  obtain ⟨A, c, e, hl, hC⟩ := Kd.R_reads h
  refine ⟨A, c, e, fun h0 => ?_⟩
  obtain ⟨b, c2, e2, hb, hs, cs, hcs⟩ := Kd.R_form h h0
  rw [e] at e2
  injection e2 with e2
  refine ⟨b, e2, h.1 b (by rw [e, e2]; rfl), hb, hs, cs, hcs, fun i hi => ?_⟩
  obtain ⟨ad, e3, hx⟩ := Kd.at_int hC (i : Int) (by omega) (by omega)
  rw [e2] at e3
  injection e3 with e3
  subst e3
  rw [Int.toNat_natCast, Addr.add_lit, Nat.zero_add, blk_cell hcs] at hx
  exact ⟨_, hx⟩
/-- The rows of a disk, as what spoils their bytes wants them: the array's block, and each element's bytes between lo and hi. -/
structure Spoils (w : World) (gx lo hi n : Nat) (vs : Nat → Option Addr × Nat × Nat) : Prop where
  cell : ∀ i, i < n → w.cell? ⟨gx, i * 3 + 2, none⟩ = some (.slice (vs i).1 (vs i).2.1 (vs i).2.2)
  small : ∀ i, i < n → (vs i).2.1 ≤ 140737488355328
  dat : ∀ i, i < n → 0 < (vs i).2.1 → ∃ b, (vs i).1 = some ⟨b, 0, none⟩ ∧ b ≠ gx ∧ lo ≤ b ∧ b < hi ∧ TB w b (vs i).2.1
  nil : ∀ i, i < n → ∀ a, (vs i).1 = some a → a.block ≠ gx ∧ lo ≤ a.block ∧ a.block < hi
  glt : gx < w.heap.size
theorem Spoils.step {w w1 : World} {gx lo hi n : Nat} {vs : Nat → Option Addr × Nat × Nat} (h : Spoils w gx lo hi n vs) {S : Nat → Prop} (k : SpK w w1 S) (hS : ¬ S gx) : Spoils w1 gx lo hi n vs := by
  refine ⟨fun i hi => ?_, h.small, fun i hi h0 => ?_, h.nil, Nat.lt_of_lt_of_le h.glt k.bel.size⟩
  · rw [← h.cell i hi]
    exact World.cell?_of_block (w := w) (k.blk gx h.glt hS)
  · obtain ⟨b, e, h1, h2, h3, h4⟩ := h.dat i hi h0
    exact ⟨b, e, h1, h2, h3, k.tb _ _ h4⟩
theorem Spoils.of_R {w : World} {base hi : Nat} {v : Value} {l : List S41} (h : Kd.R k41 41 w base (fun k => k < hi) v l) (hs : ∀ y ∈ l, y.f2.length ≤ 140737488355328) : ∃ A c vs, v = .slice A l.length c ∧ (0 < l.length → ∃ gx, A = some ⟨gx, 0, none⟩ ∧ Spoils w gx base hi l.length vs) := by
  obtain ⟨A, c, e, _, _⟩ := Kd.R_reads h
  rcases Nat.eq_zero_or_pos l.length with h0 | h0
  · exact ⟨A, c, fun _ => (none, 0, 0), e, fun h => absurd h (by omega)⟩
  obtain ⟨gx, c2, e2, hb, hlt, cs, hcs⟩ := Kd.R_form h h0
  have hel : ∀ i, i < l.length → ∃ (A2 : Option Addr) (n2 c2 : Nat), w.cell? ⟨gx, i * 3 + 2, none⟩ = some (.slice A2 n2 c2) ∧ n2 ≤ 140737488355328 ∧ (0 < n2 → ∃ b, A2 = some ⟨b, 0, none⟩ ∧ b ≠ gx ∧ base ≤ b ∧ b < hi ∧ TB w b n2) ∧ ∀ a, A2 = some a → a.block ≠ gx ∧ base ≤ a.block ∧ a.block < hi := by
    intro i hi'
    rw [e2] at h
    obtain ⟨cc, hcl, hM, hcell, _⟩ := Kd.R_elem h z41 (i : Int) (by omega) (by omega)
    obtain ⟨v2, e3, hR⟩ := k41_openM hM
    rw [Int.toNat_natCast] at hcell hR
    have hx := hcell 2 v2 (by rw [e3]; rfl)
    have hgd : l.getD i z41 = l[i] := by rw [List.getD_eq_getElem?_getD, List.getElem?_eq_getElem hi']; rfl
    rw [hgd] at hR
    obtain ⟨A2, c3, e4, hT⟩ := TB_of_R hR
    subst e4
    refine ⟨A2, _, c3, hx, hs _ (List.getElem_mem hi'), fun hp => ?_, fun a ha => ?_⟩
    · obtain ⟨b, e5, hok, hb2, hlt2, ht⟩ := hT hp
      exact ⟨b, e5, hok.2, hb2, hok.1, ht⟩
    · have hok := hR.1 a.block (by rw [ha]; rfl)
      obtain ⟨cells, _⟩ := own_typed (Kd.R_own hR).choose_spec a.block (by rw [ha]; rfl)
      exact ⟨hok.2, own_base (Kd.R_own hR).choose_spec a.block (by rw [ha]; rfl), hok.1⟩
  refine ⟨some ⟨gx, 0, none⟩, c2, fun i => if hi' : i < l.length then ((hel i hi').choose, (hel i hi').choose_spec.choose, (hel i hi').choose_spec.choose_spec.choose) else (none, 0, 0), e2, fun _ => ⟨gx, rfl, ?_⟩⟩
  refine ⟨fun i hi' => ?_, fun i hi' => ?_, fun i hi' => ?_, fun i hi' => ?_, hlt⟩ <;> simp only [dif_pos hi']
  · exact (hel i hi').choose_spec.choose_spec.choose_spec.1
  · exact (hel i hi').choose_spec.choose_spec.choose_spec.2.1
  · exact (hel i hi').choose_spec.choose_spec.choose_spec.2.2.1
  · exact (hel i hi').choose_spec.choose_spec.choose_spec.2.2.2
end Go.Proofs.Ytnlneiiccoakjaa.P
