/-
The law ImageRows: its walk with the values that a disk's rows have, and the plain law.
Conditions: none.
-/
import Derived.Test.YtnlneiiccoakjaaHandImgLaw
import Derived.Test.YtnlneiiccoakjaaHandImgOpen
namespace Go.Proofs.Ytnlneiiccoakjaa.P
open Go.RowKit Go.Proofs.YtnlneiiccoakjaaW.PrintWords Go.Proofs.YtnlneiiccoakjaaW.PrintLast Go.Proofs.YtnlneiiccoakjaaW.PrintMore
attribute [local go_sem] max2_int min2_int max_two min_two max_three min_three max_four min_four
set_option linter.unusedVariables false
set_option linter.unusedSimpArgs false
open Go.Proofs.Ytnlneiiccoakjaa.Num Go.Proofs.Ytnlneiiccoakjaa.Plain
theorem leveelaw32_ImageRows.calls (A0 : Option Addr) (c0 : Nat) (l0 : List Int) (A1 : Option Addr) (c1 : Nat) (l1 : List S54) (r : Bool) (w : World) (hr0 : Kd.C (Kd.int .u8) w A0 l0.length l0) (hc0 : l0.length ≤ c0) (hr1 : Kd.C k54 w A1 l1.length l1) (hc1 : l1.length ≤ c1) (h : leveelaw32_ImageRows.f l0 l1 = some r) :
    Calls Try.prog 3 #[.slice A0 l0.length c0, .slice A1 l1.length c1] w fun e w' => e = .returned (.bool r) ∧ Below w.heap.size w w' := by
  unfold leveelaw32_ImageRows.f at h
  split at h
  case isFalse => exact absurd h (by simp)
  rename_i hg
  obtain ⟨hbb, hz⟩ := hg
  obtain rfl := Option.some.inj h
  have hb := bytesB_iff.mp hbb
  have hz' : ∀ y ∈ l1, y.f2.size ≤ 140737488355328 := fun y hy => of_decide_eq_true (List.all_eq_true.mp hz y hy)
  by_cases hbig : 40000 < l0.length ∨ 60 < l1.length
  · exact big_one A0 c0 l0.length A1 c1 l1.length w hbig hr0.2.1 hr1.2.1
  have h0 : l0.length ≤ 40000 := by omega
  have h1 : l1.length ≤ 60 := by omega
  obtain ⟨Lx, e, hx⟩ : ∃ Lx e, rowsP l0 = (Lx, e) := ⟨_, _, rfl⟩
  obtain ⟨p, g, hp⟩ : ∃ p g, blocksP (l1.map giveP) = (p, g) := ⟨_, _, rfl⟩
  have hLb : ∀ y ∈ Lx, isBytes y.f2 := by
    have e1 : Lx = (rowsP l0).1 := by rw [hx]
    rw [e1]
    unfold rowsP
    split
    · exact rowsN_f2 hb _
    · intro y hy; cases hy
  have hLs : Lx.length ≤ 1048576 ∧ ∀ y ∈ Lx, y.f2.length ≤ 140737488355328 := by
    have e1 : Lx = (rowsP l0).1 := by rw [hx]
    rw [e1]
    unfold rowsP
    split
    · have hok := rowsN_ok l0 (l0.length / 256)
      show (rowsN l0 (l0.length / 256)).length ≤ 1048576 ∧ ∀ y ∈ rowsN l0 (l0.length / 256), y.f2.length ≤ 140737488355328
      exact ⟨by have := hok.1; omega, fun y hy => by have := (hok.2 y hy).2.2; omega⟩
    · exact ⟨Nat.zero_le _, fun y hy => by cases hy⟩
  have hgb : ∀ y ∈ l1.map giveP, isBytes y.f2 := fun y hy => by obtain ⟨x, _, rfl⟩ := List.mem_map.mp hy; exact bytesOf_is _
  have a1 : Aside0 (∀ w : World, (Kd.int .u8).C w A0 l0.length l0 → Calls Try.prog 8 #[.slice A0 l0.length c0] w fun e w' => ∃ A c, e = .returned (.slice A l0.length c) ∧ OwnQ w' w.heap.size w'.heap.size A l0.length c l0 ∧ Below w.heap.size w w') := ⟨fun w hr => u_lent hr hc0 h0⟩
  have a2 : Aside0 (∀ (w : World) (A : Option Addr) (c so s1 : Nat), OwnQ w so s1 A l0.length c l0 → Calls Try.prog 9 #[.slice A l0.length c] w fun r w' => ∃ A2 c2 lo hi, r = .returned (.tuple #[.slice A2 Lx.length c2, .int .i64 e]) ∧ OwnQ w' so lo A l0.length c l0 ∧ RowsX w' lo hi A2 Lx.length c2 Lx ∧ w.heap.size ≤ lo ∧ hi ≤ w'.heap.size ∧ lo ≤ hi ∧ Below w.heap.size w w') := ⟨fun w A c so s1 hQ => u_rows hQ hb hx⟩
  have a3 : Aside0 (∀ w : World, (Kd.int .u8).C w A0 l0.length l0 → Calls Try.prog 10 #[.slice A0 l0.length c0] w fun r w' => ∃ A2 c2, r = .returned (.tuple #[.slice A2 Lx.length c2, .int .i64 e]) ∧ Lx.length ≤ c2 ∧ Kd.C k54 w' A2 Lx.length (Lx.map strR) ∧ Below w.heap.size w w') := ⟨fun w hr => u_rrows hr hc0 hb h0 hx⟩
  have a4 : Aside0 (∀ (w : World) (A : Option Addr) (c lo hi : Nat), RowsX w lo hi A Lx.length c Lx → Calls Try.prog 12 #[.slice A Lx.length c] w fun r w' => ∃ A2 c2, r = .returned (.slice A2 Lx.length c2) ∧ Lx.length ≤ c2 ∧ Kd.C k54 w' A2 Lx.length (Lx.map strR) ∧ Below w.heap.size w w') := ⟨fun w A c lo hi hR => u_taken hR hLs.1⟩
  have a5 : Aside0 (∀ (w : World) (A : Option Addr) (c : Nat) (A2 : Option Addr) (c2 : Nat), Kd.C k54 w A Lx.length (Lx.map strR) → Lx.length ≤ c → Kd.C k54 w A2 Lx.length (Lx.map strR) → Lx.length ≤ c2 → Calls Try.prog 11 #[.slice A Lx.length c, .slice A2 Lx.length c2] w fun r w' => r = .returned (.bool true) ∧ Below w.heap.size w w') := ⟨fun w A c A2 c2 k1 k2 k3 k4 => u_same k1 k2 k3 k4 hLb hLs.1⟩
  have a6 : Aside0 (∀ (w : World) (A : Option Addr) (c so s1 : Nat), OwnQ w so s1 A l0.length c l0 → (Kd.int .u8).C w A0 l0.length l0 → Calls Try.prog 13 #[.slice A l0.length c, .slice A0 l0.length c0] w fun r w' => r = .returned (.bool true) ∧ Below w.heap.size w w') := ⟨fun w A c so s1 hQ hr => u_kept hQ hr hc0 h0⟩
  have a7 : Aside0 (∀ w : World, Kd.C k54 w A1 l1.length l1 → Calls Try.prog 15 #[.slice A1 l1.length c1] w fun r w' => ∃ A c, r = .returned (.slice A l1.length c) ∧ l1.length ≤ c ∧ Kd.C k41 w' A l1.length (l1.map giveP) ∧ Below w.heap.size w w') := ⟨fun w hr => u_given hr hc1 h1 hz'⟩
  have a8 : Aside0 (∀ (w : World) (A : Option Addr) (c : Nat), Kd.C k41 w A l1.length (l1.map giveP) → l1.length ≤ c → Calls Try.prog 14 #[.slice A l1.length c] w fun r w' => ∃ A2 c2, r = .returned (.tuple #[.slice A2 p.length c2, .int .i64 g]) ∧ Kd.R (Kd.int .u8) 5 w' w.heap.size (fun _ => True) (.slice A2 p.length c2) p ∧ Below w.heap.size w w') := ⟨fun w A c hr hc => u_blocks (List.length_map ..) hr hc hgb hp⟩
  have a9 : Aside0 (∀ w : World, Kd.C k54 w A1 l1.length l1 → Calls Try.prog 16 #[.slice A1 l1.length c1] w fun r w' => ∃ A2 c2, r = .returned (.tuple #[.slice A2 p.length c2, .int .i64 g]) ∧ Kd.R (Kd.int .u8) 5 w' w.heap.size (fun _ => True) (.slice A2 p.length c2) p ∧ Below w.heap.size w w') := ⟨fun w hr => u_rblocks hr hc1 h1 hp⟩
  by_cases hd : diskB l0 = true
  · have e1 : Lx = rowsN l0 (l0.length / 256) := by rw [← rowsP_disk hd, hx]
    have e2 : e = 0 := by
      have : e = (rowsP l0).2 := by rw [hx]
      rw [this]
      unfold rowsP
      rw [if_pos hd]
    refine disk A0 c0 l0.length l0 A1 c1 l1.length Lx.length p.length l1 Lx (Lx.map strR) (l1.map giveP) p e g w hr0 hr1 h0 h1 a1 a2 a3 a4 a5 a6 a7 a8 a9 ⟨fun w A c lo hi hR => ?_⟩ e2 hLs.2 hLs.1
    obtain ⟨_, hl, hC⟩ := Kd.R_reads' hR
    exact u_blocks rfl hC hl hLb (by rw [e1]; exact blocks_back hd)
  · refine no_disk A0 c0 l0.length l0 A1 c1 l1.length Lx.length p.length l1 Lx (Lx.map strR) (l1.map giveP) p e g w hr0 hr1 h0 h1 a1 a2 a3 a4 a5 a6 a7 a8 a9 ?_
    have : e = (rowsP l0).2 := by rw [hx]
    rw [this]
    unfold rowsP
    rw [if_neg hd]
    show (1 : Int) ≠ 0
    decide
end Go.Proofs.Ytnlneiiccoakjaa.P
namespace Go.Proofs.Ytnlneiiccoakjaa.Pure
open Go.RowKit Go.Proofs.YtnlneiiccoakjaaW.PrintWords Go.Proofs.YtnlneiiccoakjaaW.PrintLast Go.Proofs.YtnlneiiccoakjaaW.PrintMore Go.Proofs.Ytnlneiiccoakjaa.P Go.Proofs.Ytnlneiiccoakjaa.Num Go.Proofs.Ytnlneiiccoakjaa.Plain
theorem ImageRows : ∀ (l0 : List Int) (l1 : List S54), l0.length ≤ maxLen → l0.length * 1 ≤ 140737488351232 → (∀ x ∈ l0, (Lit.int .u8 x).wf = true) → (∀ y ∈ l1, y.f2.size ≤ 140737488351232) → leveelaw32_ImageRows.f l0 l1 = some true := by
  intro l0 l1 _ _ hw hs
  unfold leveelaw32_ImageRows.f
  rw [if_pos ⟨bytesB_iff.mpr (isBytes_of_wf hw), List.all_eq_true.mpr fun y hy => decide_eq_true (by have := hs y hy; omega)⟩]
end Go.Proofs.Ytnlneiiccoakjaa.Pure
