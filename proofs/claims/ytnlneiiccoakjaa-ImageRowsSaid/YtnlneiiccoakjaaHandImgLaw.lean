/-
The law ImageRows, walked by hand.
Conditions: none.
-/
import Derived.Test.YtnlneiiccoakjaaHandImgLawC
namespace Go.Proofs.Ytnlneiiccoakjaa.P
open Go.RowKit Go.Proofs.YtnlneiiccoakjaaW.PrintWords Go.Proofs.YtnlneiiccoakjaaW.PrintLast Go.Proofs.YtnlneiiccoakjaaW.PrintMore
attribute [local go_sem] max2_int min2_int max_two min_two max_three min_three max_four min_four
set_option linter.unusedVariables false
set_option linter.unusedSimpArgs false
open Go.Proofs.Ytnlneiiccoakjaa.Num Go.Proofs.Ytnlneiiccoakjaa.Plain
def leveelaw32_ImageRows.f (l0 : List Int) (l1 : List S54) : Option Bool := if bytesB l0 = true ∧ (l1.all fun x => decide (x.f2.size ≤ 140737488355328)) = true then some true else none
theorem str_refl (p : List Int) : ((strOfNums p).toList != (strOfNums p).toList) = false := by simp
theorem big_one (A0 : Option Addr) (c0 n0 : Nat) (A1 : Option Addr) (c1 n1 : Nat) (w : World) (h : 40000 < n0 ∨ 60 < n1) (hn : n0 ≤ 9223372036854775807) (hn1 : n1 ≤ 9223372036854775807) :
    Calls Try.prog 3 #[.slice A0 n0 c0, .slice A1 n1 c1] w fun e w' => e = .returned (.bool true) ∧ Below w.heap.size w w' := by
  have HB := Aside0.mk (Below.refl w.heap.size w)
  by_cases c : 40000 < n0
  · have ca : decide (40000 < (n0 : Int)) = true := decide_eq_true (by omega)
    have cb : decide (40000 < n0) = true := decide_eq_true c
    clear c h
    go_enter Try.func3, Try.ntmps3
    go_wp2_with (first | ((go_at_call 7); (with_reducible refine (leveelaw32_known.calls true _ rfl).mono ?_); go_loud (rintro e w_ ⟨rfl, hb⟩; have z_ := below_step HB.out hb; clear HB; have HB := Aside0.mk z_; clear z_; clear hb)))
    go_ret
    exact ⟨rfl, HB.out⟩
  · have ca : decide (40000 < (n0 : Int)) = false := decide_eq_false (by omega)
    have cb : decide (40000 < n0) = false := decide_eq_false c
    have cc : decide (60 < (n1 : Int)) = true := decide_eq_true (by omega)
    have cd : decide (60 < n1) = true := decide_eq_true (by omega)
    clear c h
    go_enter Try.func3, Try.ntmps3
    go_wp2_with (first | ((go_at_call 7); (with_reducible refine (leveelaw32_known.calls true _ rfl).mono ?_); go_loud (rintro e w_ ⟨rfl, hb⟩; have z_ := below_step HB.out hb; clear HB; have HB := Aside0.mk z_; clear z_; clear hb)))
    go_ret
    exact ⟨rfl, HB.out⟩
theorem cv_R {w : World} {base n c : Nat} {ok : Nat → Prop} {A : Option Addr} {l : List Int} (h : Kd.R (Kd.int .u8) 5 w base ok (.slice A n c) l) : (convert 22 9 (.slice A n c)).run Try.prog w = .ok (.string (strOfNums l)) w := by
  obtain ⟨rfl, _, hC⟩ := Kd.R_reads' h
  exact Kd.C_string (A := A) (c := c) (P := Try.prog) Try.underlying22 Try.underlying5 Try.underlying9 hC
set_option maxHeartbeats 16000000 in
set_option maxRecDepth 100000 in
theorem no_disk (A0 : Option Addr) (c0 n0 : Nat) (b : List Int) (A1 : Option Addr) (c1 n1 nx np : Nat) (l1 : List S54) (Lx : List S41) (Ly : List S54) (L1 : List S41) (p : List Int) (e g : Int) (w : World)
    (hr0 : (Kd.int .u8).C w A0 n0 b) (hr1 : Kd.C k54 w A1 n1 l1) (h0 : n0 ≤ 40000) (h1 : n1 ≤ 60)
    (cLent : Aside0 (∀ w : World, (Kd.int .u8).C w A0 n0 b → Calls Try.prog 8 #[.slice A0 n0 c0] w fun e w' => ∃ A c, e = .returned (.slice A n0 c) ∧ OwnQ w' w.heap.size w'.heap.size A n0 c b ∧ Below w.heap.size w w'))
    (cRows : Aside0 (∀ (w : World) (A : Option Addr) (c so s1 : Nat), OwnQ w so s1 A n0 c b → Calls Try.prog 9 #[.slice A n0 c] w fun r w' => ∃ A2 c2 lo hi, r = .returned (.tuple #[.slice A2 nx c2, .int .i64 e]) ∧ OwnQ w' so lo A n0 c b ∧ RowsX w' lo hi A2 nx c2 Lx ∧ w.heap.size ≤ lo ∧ hi ≤ w'.heap.size ∧ lo ≤ hi ∧ Below w.heap.size w w'))
    (cRRows : Aside0 (∀ w : World, (Kd.int .u8).C w A0 n0 b → Calls Try.prog 10 #[.slice A0 n0 c0] w fun r w' => ∃ A2 c2, r = .returned (.tuple #[.slice A2 nx c2, .int .i64 e]) ∧ nx ≤ c2 ∧ Kd.C k54 w' A2 nx Ly ∧ Below w.heap.size w w'))
    (cTaken : Aside0 (∀ (w : World) (A : Option Addr) (c lo hi : Nat), RowsX w lo hi A nx c Lx → Calls Try.prog 12 #[.slice A nx c] w fun r w' => ∃ A2 c2, r = .returned (.slice A2 nx c2) ∧ nx ≤ c2 ∧ Kd.C k54 w' A2 nx Ly ∧ Below w.heap.size w w'))
    (cSame : Aside0 (∀ (w : World) (A : Option Addr) (c : Nat) (A2 : Option Addr) (c2 : Nat), Kd.C k54 w A nx Ly → nx ≤ c → Kd.C k54 w A2 nx Ly → nx ≤ c2 → Calls Try.prog 11 #[.slice A nx c, .slice A2 nx c2] w fun r w' => r = .returned (.bool true) ∧ Below w.heap.size w w'))
    (cKept : Aside0 (∀ (w : World) (A : Option Addr) (c so s1 : Nat), OwnQ w so s1 A n0 c b → (Kd.int .u8).C w A0 n0 b → Calls Try.prog 13 #[.slice A n0 c, .slice A0 n0 c0] w fun r w' => r = .returned (.bool true) ∧ Below w.heap.size w w'))
    (cGiven : Aside0 (∀ w : World, Kd.C k54 w A1 n1 l1 → Calls Try.prog 15 #[.slice A1 n1 c1] w fun r w' => ∃ A c, r = .returned (.slice A n1 c) ∧ n1 ≤ c ∧ Kd.C k41 w' A n1 L1 ∧ Below w.heap.size w w'))
    (cBlk : Aside0 (∀ (w : World) (A : Option Addr) (c : Nat), Kd.C k41 w A n1 L1 → n1 ≤ c → Calls Try.prog 14 #[.slice A n1 c] w fun r w' => ∃ A2 c2, r = .returned (.tuple #[.slice A2 np c2, .int .i64 g]) ∧ Kd.R (Kd.int .u8) 5 w' w.heap.size (fun _ => True) (.slice A2 np c2) p ∧ Below w.heap.size w w'))
    (cRBlk : Aside0 (∀ w : World, Kd.C k54 w A1 n1 l1 → Calls Try.prog 16 #[.slice A1 n1 c1] w fun r w' => ∃ A2 c2, r = .returned (.tuple #[.slice A2 np c2, .int .i64 g]) ∧ Kd.R (Kd.int .u8) 5 w' w.heap.size (fun _ => True) (.slice A2 np c2) p ∧ Below w.heap.size w w'))
    (hE : e ≠ 0) : Calls Try.prog 3 #[.slice A0 n0 c0, .slice A1 n1 c1] w fun e w' => e = .returned (.bool true) ∧ Below w.heap.size w w' := by
  have d0 : decide (40000 < (n0 : Int)) = false := decide_eq_false (by omega)
  have d1 : decide (40000 < n0) = false := decide_eq_false (by omega)
  have d2 : decide (60 < (n1 : Int)) = false := decide_eq_false (by omega)
  have d3 : decide (60 < n1) = false := decide_eq_false (by omega)
  have HR0 := Aside0.mk hr0
  have HR1 := Aside0.mk hr1
  have HB := Aside0.mk (Below.refl w.heap.size w)
  have hst := str_refl p
  clear hr0 hr1
  have hE1 : (e != 0) = true := bne_iff_ne.mpr hE
  clear hE h0 h1
  go_enter Try.func3, Try.ntmps3
  go_wp2_with (first
    | ((go_at_call 8); (with_reducible refine (cLent.out _ (Kd.C_below HR0.out HB.out)).mono ?_); go_loud (rintro e w_ ⟨Ao, co, rfl, hQ, hb⟩; have z_ := below_step HB.out hb; clear HB; have HB := Aside0.mk z_; clear z_; have HO := Aside0.mk hQ; clear hQ; clear hb))
    | ((go_at_call 9); (with_reducible refine (cRows.out _ _ _ _ _ HO.out).mono ?_); go_loud (rintro e w_ ⟨Ax, cx, lo, hi, rfl, hQ, hR, h1_, h2_, h3_, hb⟩; have HLO := Aside0.mk (Nat.le_trans (below_size HB.out) h1_); clear h1_; have z_ := below_step HB.out hb; clear HB; have HB := Aside0.mk z_; clear z_; clear HO; have HO := Aside0.mk hQ; have HX := Aside0.mk hR; have HS := Aside0.mk h2_; have HLH := Aside0.mk h3_; clear hb hQ hR h2_ h3_))
    | ((go_at_call 10); (with_reducible refine (cRRows.out _ (Kd.C_below HR0.out HB.out)).mono ?_); go_loud (rintro e w_ ⟨Ay, cy, rfl, hl, hC, hb⟩; have z_ := below_step HB.out hb; clear HB; have HB := Aside0.mk z_; clear z_; have z_ := TQ.Q_below HO.out hb; clear HO; have HO := Aside0.mk z_; clear z_; have z_ := Kd.R_below HX.out hb; clear HX; have HX := Aside0.mk z_; clear z_; have z_ := Nat.le_trans HS.out (below_size hb); clear HS; have HS := Aside0.mk z_; clear z_; have HY := Aside0.mk hC; have HYL := Aside0.mk hl; clear hC hl; clear hb))
    | ((go_at_call 12); (with_reducible refine (cTaken.out _ _ _ _ _ HX.out).mono ?_); go_loud (rintro e w_ ⟨At, ct, rfl, hl, hC, hb⟩; have z_ := below_step HB.out hb; clear HB; have HB := Aside0.mk z_; clear z_; have z_ := TQ.Q_below HO.out hb; clear HO; have HO := Aside0.mk z_; clear z_; have z_ := Kd.R_below HX.out hb; clear HX; have HX := Aside0.mk z_; clear z_; have z_ := Nat.le_trans HS.out (below_size hb); clear HS; have HS := Aside0.mk z_; clear z_; have z_ := Kd.C_below HY.out hb; clear HY; have HY := Aside0.mk z_; clear z_; have HT := Aside0.mk hC; have HTL := Aside0.mk hl; clear hC hl; clear hb))
    | ((go_at_call 11); (with_reducible refine (cSame.out _ _ _ _ _ HT.out HTL.out HY.out HYL.out).mono ?_); go_loud (rintro e w_ ⟨rfl, hb⟩; have z_ := below_step HB.out hb; clear HB; have HB := Aside0.mk z_; clear z_; have z_ := TQ.Q_below HO.out hb; clear HO; have HO := Aside0.mk z_; clear z_; have z_ := Kd.R_below HX.out hb; clear HX; have HX := Aside0.mk z_; clear z_; have z_ := Nat.le_trans HS.out (below_size hb); clear HS; have HS := Aside0.mk z_; clear z_; clear HT HTL HY HYL; clear hb))
    | ((go_at_call 13); (with_reducible refine (cKept.out _ _ _ _ _ HO.out (Kd.C_below HR0.out HB.out)).mono ?_); go_loud (rintro e w_ ⟨rfl, hb⟩; have z_ := below_step HB.out hb; clear HB; have HB := Aside0.mk z_; clear z_; have z_ := TQ.Q_below HO.out hb; clear HO; have HO := Aside0.mk z_; clear z_; have z_ := Kd.R_below HX.out hb; clear HX; have HX := Aside0.mk z_; clear z_; have z_ := Nat.le_trans HS.out (below_size hb); clear HS; have HS := Aside0.mk z_; clear z_; clear hb))
    | ((go_at_call 15); (with_reducible refine (cGiven.out _ (Kd.C_below HR1.out HB.out)).mono ?_); go_loud (rintro e w_ ⟨Ag, cg, rfl, hl, hC, hb⟩; have z_ := below_step HB.out hb; clear HB; have HB := Aside0.mk z_; clear z_; have z_ := TQ.Q_below HO.out hb; clear HO; have HO := Aside0.mk z_; clear z_; have z_ := Kd.R_below HX.out hb; clear HX; have HX := Aside0.mk z_; clear z_; have z_ := Nat.le_trans HS.out (below_size hb); clear HS; have HS := Aside0.mk z_; clear z_; have HG := Aside0.mk hC; have HGL := Aside0.mk hl; clear hC hl; clear hb))
    | ((go_at_call 14); (with_reducible refine (cBlk.out _ _ _ HG.out HGL.out).mono ?_); go_loud (rintro e w_ ⟨Ap, cp, rfl, hR, hb⟩; have z_ := below_step HB.out hb; clear HB; have HB := Aside0.mk z_; clear z_; have z_ := TQ.Q_below HO.out hb; clear HO; have HO := Aside0.mk z_; clear z_; have z_ := Kd.R_below HX.out hb; clear HX; have HX := Aside0.mk z_; clear z_; have z_ := Nat.le_trans HS.out (below_size hb); clear HS; have HS := Aside0.mk z_; clear z_; clear HG HGL; have HP := Aside0.mk hR; clear hR; clear hb))
    | ((go_at_call 16); (with_reducible refine (cRBlk.out _ (Kd.C_below HR1.out HB.out)).mono ?_); go_loud (rintro e w_ ⟨Aq, cq, rfl, hR, hb⟩; have z_ := below_step HB.out hb; clear HB; have HB := Aside0.mk z_; clear z_; have z_ := TQ.Q_below HO.out hb; clear HO; have HO := Aside0.mk z_; clear z_; have z_ := Kd.R_below HX.out hb; clear HX; have HX := Aside0.mk z_; clear z_; have z_ := Nat.le_trans HS.out (below_size hb); clear HS; have HS := Aside0.mk z_; clear z_; have z_ := Kd.R_below HP.out hb; clear HP; have HP := Aside0.mk z_; clear z_; have HQ := Aside0.mk hR; clear hR; have hcvp := cv_R HP.out; have hcvq := cv_R HQ.out; clear hb))
    | ((go_at_call 7); (with_reducible refine (leveelaw32_known.calls true _ rfl).mono ?_); go_loud (rintro e w_ ⟨rfl, hb⟩; have z_ := below_step HB.out hb; clear HB; have HB := Aside0.mk z_; clear z_; clear hb)))
  go_ret
  exact ⟨rfl, HB.out⟩
theorem spoils_at {w : World} {lo hi n c : Nat} {A : Option Addr} {l : List S41} (h : RowsX w lo hi A n c l) (hs : ∀ y ∈ l, y.f2.length ≤ 140737488355328) : ∃ vs, 0 < n → ∃ gx, A = some ⟨gx, 0, none⟩ ∧ Spoils w gx lo hi n vs := by
  obtain ⟨rfl, _, _⟩ := Kd.R_reads' h
  obtain ⟨A2, c2, vs, e, hv⟩ := Spoils.of_R h hs
  injection e with e1 _ _
  subst e1
  exact ⟨vs, hv⟩
def SpS (lo hi : Nat) (A : Option Addr) (k : Nat) : Prop := lo ≤ k ∧ k < hi ∧ ∀ a, A = some a → k ≠ a.block
theorem spoil_elem {w w1 : World} {gx lo hi n : Nat} {vs : Nat → Option Addr × Nat × Nat} (h : Spoils w gx lo hi n vs) (hk : SpK w w1 (SpS lo hi (some ⟨gx, 0, none⟩))) (i : Nat) (hi' : i < n) :
    ∃ (A2 : Option Addr) (n2 c2 : Nat), w1.cell? ⟨gx, i * 3 + 2, none⟩ = some (.slice A2 n2 c2) ∧ Calls Try.prog 17 #[.slice A2 n2 c2] w1 fun e w' => e = .returned (.tuple #[]) ∧ SpK w w' (SpS lo hi (some ⟨gx, 0, none⟩)) := by
  have h1 := h.step hk (fun q => q.2.2 _ rfl rfl)
  refine ⟨(vs i).1, (vs i).2.1, (vs i).2.2, h1.cell i hi', ?_⟩
  refine (spoil_any (vs i).1 (vs i).2.1 (vs i).2.2 w1 (fun h0 => ?_) (h1.small i hi')).mono ?_
  · obtain ⟨b, e, _, _, _, ht⟩ := h1.dat i hi' h0
    exact ⟨b, e, ht⟩
  · rintro e w' ⟨rfl, hk2⟩
    refine ⟨rfl, hk.trans hk2 ?_⟩
    rintro k ⟨a, ea, rfl⟩
    obtain ⟨g1, g2, g3⟩ := h1.nil i hi' a ea
    refine ⟨g2, g3, fun a2 e2 => ?_⟩
    injection e2 with e2
    rw [← e2]
    exact g1
set_option maxHeartbeats 16000000 in
set_option maxRecDepth 100000 in
theorem disk (A0 : Option Addr) (c0 n0 : Nat) (b : List Int) (A1 : Option Addr) (c1 n1 nx np : Nat) (l1 : List S54) (Lx : List S41) (Ly : List S54) (L1 : List S41) (p : List Int) (e g : Int) (w : World)
    (hr0 : (Kd.int .u8).C w A0 n0 b) (hr1 : Kd.C k54 w A1 n1 l1) (h0 : n0 ≤ 40000) (h1 : n1 ≤ 60)
    (cLent : Aside0 (∀ w : World, (Kd.int .u8).C w A0 n0 b → Calls Try.prog 8 #[.slice A0 n0 c0] w fun e w' => ∃ A c, e = .returned (.slice A n0 c) ∧ OwnQ w' w.heap.size w'.heap.size A n0 c b ∧ Below w.heap.size w w'))
    (cRows : Aside0 (∀ (w : World) (A : Option Addr) (c so s1 : Nat), OwnQ w so s1 A n0 c b → Calls Try.prog 9 #[.slice A n0 c] w fun r w' => ∃ A2 c2 lo hi, r = .returned (.tuple #[.slice A2 nx c2, .int .i64 e]) ∧ OwnQ w' so lo A n0 c b ∧ RowsX w' lo hi A2 nx c2 Lx ∧ w.heap.size ≤ lo ∧ hi ≤ w'.heap.size ∧ lo ≤ hi ∧ Below w.heap.size w w'))
    (cRRows : Aside0 (∀ w : World, (Kd.int .u8).C w A0 n0 b → Calls Try.prog 10 #[.slice A0 n0 c0] w fun r w' => ∃ A2 c2, r = .returned (.tuple #[.slice A2 nx c2, .int .i64 e]) ∧ nx ≤ c2 ∧ Kd.C k54 w' A2 nx Ly ∧ Below w.heap.size w w'))
    (cTaken : Aside0 (∀ (w : World) (A : Option Addr) (c lo hi : Nat), RowsX w lo hi A nx c Lx → Calls Try.prog 12 #[.slice A nx c] w fun r w' => ∃ A2 c2, r = .returned (.slice A2 nx c2) ∧ nx ≤ c2 ∧ Kd.C k54 w' A2 nx Ly ∧ Below w.heap.size w w'))
    (cSame : Aside0 (∀ (w : World) (A : Option Addr) (c : Nat) (A2 : Option Addr) (c2 : Nat), Kd.C k54 w A nx Ly → nx ≤ c → Kd.C k54 w A2 nx Ly → nx ≤ c2 → Calls Try.prog 11 #[.slice A nx c, .slice A2 nx c2] w fun r w' => r = .returned (.bool true) ∧ Below w.heap.size w w'))
    (cKept : Aside0 (∀ (w : World) (A : Option Addr) (c so s1 : Nat), OwnQ w so s1 A n0 c b → (Kd.int .u8).C w A0 n0 b → Calls Try.prog 13 #[.slice A n0 c, .slice A0 n0 c0] w fun r w' => r = .returned (.bool true) ∧ Below w.heap.size w w'))
    (cGiven : Aside0 (∀ w : World, Kd.C k54 w A1 n1 l1 → Calls Try.prog 15 #[.slice A1 n1 c1] w fun r w' => ∃ A c, r = .returned (.slice A n1 c) ∧ n1 ≤ c ∧ Kd.C k41 w' A n1 L1 ∧ Below w.heap.size w w'))
    (cBlk : Aside0 (∀ (w : World) (A : Option Addr) (c : Nat), Kd.C k41 w A n1 L1 → n1 ≤ c → Calls Try.prog 14 #[.slice A n1 c] w fun r w' => ∃ A2 c2, r = .returned (.tuple #[.slice A2 np c2, .int .i64 g]) ∧ Kd.R (Kd.int .u8) 5 w' w.heap.size (fun _ => True) (.slice A2 np c2) p ∧ Below w.heap.size w w'))
    (cRBlk : Aside0 (∀ w : World, Kd.C k54 w A1 n1 l1 → Calls Try.prog 16 #[.slice A1 n1 c1] w fun r w' => ∃ A2 c2, r = .returned (.tuple #[.slice A2 np c2, .int .i64 g]) ∧ Kd.R (Kd.int .u8) 5 w' w.heap.size (fun _ => True) (.slice A2 np c2) p ∧ Below w.heap.size w w'))
    (cBlk2 : Aside0 (∀ (w : World) (A : Option Addr) (c lo hi : Nat), RowsX w lo hi A nx c Lx → Calls Try.prog 14 #[.slice A nx c] w fun r w' => ∃ A2 c2, r = .returned (.tuple #[.slice A2 n0 c2, .int .i64 0]) ∧ Kd.R (Kd.int .u8) 5 w' w.heap.size (fun _ => True) (.slice A2 n0 c2) b ∧ Below w.heap.size w w'))
    (hE : e = 0) (hsm : ∀ y ∈ Lx, y.f2.length ≤ 140737488355328) (hnx : nx ≤ 1048576) : Calls Try.prog 3 #[.slice A0 n0 c0, .slice A1 n1 c1] w fun e w' => e = .returned (.bool true) ∧ Below w.heap.size w w' := by
  have d0 : decide (40000 < (n0 : Int)) = false := decide_eq_false (by omega)
  have d1 : decide (40000 < n0) = false := decide_eq_false (by omega)
  have d2 : decide (60 < (n1 : Int)) = false := decide_eq_false (by omega)
  have d3 : decide (60 < n1) = false := decide_eq_false (by omega)
  have HR0 := Aside0.mk hr0
  have HR1 := Aside0.mk hr1
  have HB := Aside0.mk (Below.refl w.heap.size w)
  have hst := str_refl p
  clear hr0 hr1
  have HSM := Aside0.mk hsm
  have hE1 : (e != 0) = false := by rw [hE]; rfl
  have hst2 : ((strOfNums b).toList == (strOfNums b).toList) = true := by simp
  clear hE h0 h1 hsm
  go_enter Try.func3, Try.ntmps3
  go_wp2_with (first
    | ((go_at_call 8); (with_reducible refine (cLent.out _ (Kd.C_below HR0.out HB.out)).mono ?_); go_loud (rintro e w_ ⟨Ao, co, rfl, hQ, hb⟩; have z_ := below_step HB.out hb; clear HB; have HB := Aside0.mk z_; clear z_; have HO := Aside0.mk hQ; clear hQ; clear hb))
    | ((go_at_call 9); (with_reducible refine (cRows.out _ _ _ _ _ HO.out).mono ?_); go_loud (rintro e w_ ⟨Ax, cx, lo, hi, rfl, hQ, hR, h1_, h2_, h3_, hb⟩; have HLO := Aside0.mk (Nat.le_trans (below_size HB.out) h1_); clear h1_; have z_ := below_step HB.out hb; clear HB; have HB := Aside0.mk z_; clear z_; clear HO; have HO := Aside0.mk hQ; have HX := Aside0.mk hR; have HS := Aside0.mk h2_; have HLH := Aside0.mk h3_; clear hb hQ hR h2_ h3_))
    | ((go_at_call 10); (with_reducible refine (cRRows.out _ (Kd.C_below HR0.out HB.out)).mono ?_); go_loud (rintro e w_ ⟨Ay, cy, rfl, hl, hC, hb⟩; have z_ := below_step HB.out hb; clear HB; have HB := Aside0.mk z_; clear z_; have z_ := TQ.Q_below HO.out hb; clear HO; have HO := Aside0.mk z_; clear z_; have z_ := Kd.R_below HX.out hb; clear HX; have HX := Aside0.mk z_; clear z_; have z_ := Nat.le_trans HS.out (below_size hb); clear HS; have HS := Aside0.mk z_; clear z_; have HY := Aside0.mk hC; have HYL := Aside0.mk hl; clear hC hl; clear hb))
    | ((go_at_call 12); (with_reducible refine (cTaken.out _ _ _ _ _ HX.out).mono ?_); go_loud (rintro e w_ ⟨At, ct, rfl, hl, hC, hb⟩; have z_ := below_step HB.out hb; clear HB; have HB := Aside0.mk z_; clear z_; have z_ := TQ.Q_below HO.out hb; clear HO; have HO := Aside0.mk z_; clear z_; have z_ := Kd.R_below HX.out hb; clear HX; have HX := Aside0.mk z_; clear z_; have z_ := Nat.le_trans HS.out (below_size hb); clear HS; have HS := Aside0.mk z_; clear z_; have z_ := Kd.C_below HY.out hb; clear HY; have HY := Aside0.mk z_; clear z_; have HT := Aside0.mk hC; have HTL := Aside0.mk hl; clear hC hl; clear hb))
    | ((go_at_call 11); (with_reducible refine (cSame.out _ _ _ _ _ HT.out HTL.out HY.out HYL.out).mono ?_); go_loud (rintro e w_ ⟨rfl, hb⟩; have z_ := below_step HB.out hb; clear HB; have HB := Aside0.mk z_; clear z_; have z_ := TQ.Q_below HO.out hb; clear HO; have HO := Aside0.mk z_; clear z_; have z_ := Kd.R_below HX.out hb; clear HX; have HX := Aside0.mk z_; clear z_; have z_ := Nat.le_trans HS.out (below_size hb); clear HS; have HS := Aside0.mk z_; clear z_; clear HT HTL HY HYL; clear hb))
    | ((go_at_call 13); (with_reducible refine (cKept.out _ _ _ _ _ HO.out (Kd.C_below HR0.out HB.out)).mono ?_); go_loud (rintro e w_ ⟨rfl, hb⟩; have z_ := below_step HB.out hb; clear HB; have HB := Aside0.mk z_; clear z_; have z_ := TQ.Q_below HO.out hb; clear HO; have HO := Aside0.mk z_; clear z_; have z_ := Kd.R_below HX.out hb; clear HX; have HX := Aside0.mk z_; clear z_; have z_ := Nat.le_trans HS.out (below_size hb); clear HS; have HS := Aside0.mk z_; clear z_; clear hb))
    | ((go_at_call 15); (with_reducible refine (cGiven.out _ (Kd.C_below HR1.out HB.out)).mono ?_); go_loud (rintro e w_ ⟨Ag, cg, rfl, hl, hC, hb⟩; have z_ := below_step HB.out hb; clear HB; have HB := Aside0.mk z_; clear z_; have z_ := TQ.Q_below HO.out hb; clear HO; have HO := Aside0.mk z_; clear z_; have z_ := Kd.R_below HX.out hb; clear HX; have HX := Aside0.mk z_; clear z_; have z_ := Nat.le_trans HS.out (below_size hb); clear HS; have HS := Aside0.mk z_; clear z_; have HG := Aside0.mk hC; have HGL := Aside0.mk hl; clear hC hl; clear hb))
    | ((go_at_call 14); (with_reducible refine (cBlk.out _ _ _ HG.out HGL.out).mono ?_); go_loud (rintro e w_ ⟨Ap, cp, rfl, hR, hb⟩; have z_ := below_step HB.out hb; clear HB; have HB := Aside0.mk z_; clear z_; have z_ := TQ.Q_below HO.out hb; clear HO; have HO := Aside0.mk z_; clear z_; have z_ := Kd.R_below HX.out hb; clear HX; have HX := Aside0.mk z_; clear z_; have z_ := Nat.le_trans HS.out (below_size hb); clear HS; have HS := Aside0.mk z_; clear z_; clear HG HGL; have HP := Aside0.mk hR; clear hR; clear hb))
    | ((go_at_call 16); (with_reducible refine (cRBlk.out _ (Kd.C_below HR1.out HB.out)).mono ?_); go_loud (rintro e w_ ⟨Aq, cq, rfl, hR, hb⟩; have z_ := below_step HB.out hb; clear HB; have HB := Aside0.mk z_; clear z_; have z_ := TQ.Q_below HO.out hb; clear HO; have HO := Aside0.mk z_; clear z_; have z_ := Kd.R_below HX.out hb; clear HX; have HX := Aside0.mk z_; clear z_; have z_ := Nat.le_trans HS.out (below_size hb); clear HS; have HS := Aside0.mk z_; clear z_; have z_ := Kd.R_below HP.out hb; clear HP; have HP := Aside0.mk z_; clear z_; have HQ := Aside0.mk hR; clear hR; have hcvp := cv_R HP.out; have hcvq := cv_R HQ.out; clear hb))
    | ((go_at_call 14); (with_reducible refine (cBlk2.out _ _ _ _ _ HX.out).mono ?_); go_loud (rintro e w14 ⟨Az, cz, rfl, hR, hb⟩; clear hcvp hcvq HP HQ; have HZ := Aside0.mk (Kd.R_lower hR HS.out); clear hR; have z_ := below_step HB.out hb; clear HB; have HB := Aside0.mk z_; clear z_; have z_ := TQ.Q_below HO.out hb; clear HO; have HO := Aside0.mk z_; clear z_; have z_ := Kd.R_below HX.out hb; clear HX; have HX := Aside0.mk z_; clear z_; have z_ := Nat.le_trans HS.out (below_size hb); clear HS; have HS := Aside0.mk z_; clear z_; clear hb)))
  obtain ⟨vs, hvs⟩ := spoils_at HX.out HSM.out
  have HV := Aside0.mk hvs
  clear hvs HX
  go_loopw [16] (fun v16 wr => ∃ i : Nat, i ≤ nx ∧ v16 = .int .i64 i ∧ Aside0 (SpK w14 wr (SpS lo hi Ax))) (fun v16 _ => nx - (intOf v16).toNat)
  case atStart => exact ⟨0, by omega, rfl, ⟨SpK.refl _ _⟩⟩
  case round =>
    obtain ⟨i, hi', rfl, HK⟩ := hrel
    by_cases hin : i < nx
    · obtain ⟨gx, eA, hs⟩ := HV.out (by omega)
      subst eA
      obtain ⟨A2, n2, c2, hx, hc⟩ := spoil_elem hs HK.out i hin
      have HC := Aside0.mk hc
      clear hs hc
      go_wp2_with (first
        | ((go_at_call 17); (with_reducible refine (HC.out).mono ?_); go_loud (rintro e w_ ⟨rfl, hk⟩; have HK2 := Aside0.mk hk; clear hk)))
      go_roundw
      case rel => exact ⟨i + 1, by omega, by go_num, HK2⟩
      case measure => simp [intOf]; omega
    · have hlo := HLO.out
      have hlh := HLH.out
      have HB2 := Aside0.mk (SpK.below HK.out HB.out (below_size HB.out) (fun k hk q => by have := q.1; omega))
      have HO2 := Aside0.mk (TQ.Q_step HO.out (fun k ho hk => HK.out.blk k hk (fun q => by have := q.1; omega)))
      have HZ2 := Aside0.mk (Kd.R_step (Kd.R_bound HZ.out) (fun k ho hk => HK.out.blk k hk (fun q => by have := q.2.1; have := ho.2.1; omega)))
      clear hlo hlh HB HO HZ
      have HB := HB2
      have HO := HO2
      clear HB2 HO2
      have hcvz := cv_R HZ2.out
      have hcvb := Kd.C_string (A := A0) (c := c0) (P := Try.prog) Try.underlying22 Try.underlying5 Try.underlying9 (Kd.C_below HR0.out HB.out)
      go_wp2_with (first
        | ((go_at_call 13); (with_reducible refine (cKept.out _ _ _ _ _ HO.out (Kd.C_below HR0.out HB.out)).mono ?_); go_loud (rintro e w_ ⟨rfl, hb⟩; have z_ := below_step HB.out hb; clear HB; have HB := Aside0.mk z_; clear z_; clear hb))
        | ((go_at_call 7); (with_reducible refine (leveelaw32_known.calls true _ rfl).mono ?_); go_loud (rintro e w_ ⟨rfl, hb⟩; have z_ := below_step HB.out hb; clear HB; have HB := Aside0.mk z_; clear z_; clear hb)))
      go_ret
      exact ⟨rfl, HB.out⟩
end Go.Proofs.Ytnlneiiccoakjaa.P
