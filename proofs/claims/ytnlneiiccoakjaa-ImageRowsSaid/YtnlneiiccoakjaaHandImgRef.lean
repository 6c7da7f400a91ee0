/-
leveeref32.kind, walked by hand.
Conditions: none.
-/
import Derived.Test.YtnlneiiccoakjaaImgPlain
import Derived.Deep.QuietTactic
import Derived.BigQuiet
import Derived.Test.YtnlneiiccoakjaaPx2
namespace Go.Proofs.Ytnlneiiccoakjaa.P
open Go.RowKit Go.Proofs.YtnlneiiccoakjaaW.PrintWords Go.Proofs.YtnlneiiccoakjaaW.PrintLast Go.Proofs.YtnlneiiccoakjaaW.PrintMore
attribute [local go_sem] max2_int min2_int max_two min_two max_three min_three max_four min_four
set_option linter.unusedVariables false
set_option linter.unusedSimpArgs false
open Go.Proofs.Ytnlneiiccoakjaa.Num Go.Proofs.Ytnlneiiccoakjaa.Plain
def leveeref32_kind.f (l0 : List Int) (a1 : Int) : Option Int := if bytesB l0 = true ∧ 0 ≤ a1 ∧ 256 * a1 + 256 ≤ (l0.length : Int) ∧ l0.length ≤ 1048576 then some (kindN l0 a1.toNat) else none
theorem TQ.Q_after {d : Kd Int} {e base : Nat} {W w1 : World} {ok : Nat → Prop} {u v v1 : Value} {xs : List Int} (h : TQ.Q d e W base (fun k => ok k ∧ some k ≠ v.ownBlock) u xs) (hg : W.grownBy w1 v.ownBlock) (hat : v1.ownBlock = v.ownBlock ∨ ∃ b, v1.ownBlock = some b ∧ W.heap.size ≤ b) : TQ.Q d e w1 base (fun k => ok k ∧ some k ≠ v1.ownBlock) u xs :=
  ⟨Kd.R_after h.1 hg hat, Kd.R_after h.2 hg hat⟩
theorem below_drawn0 {w w' : World} (h : Drawn0 w w') : Below w.heap.size w w' := by
  obtain ⟨n, rfl⟩ := h
  exact pw_below_drewN (Below.refl _ _) n
/-- A cut of bytes that are read, with its bounds as natural numbers. -/
theorem mid_cut (A : Option Addr) (c : Nat) (xs : List Int) (lo hi : Int) (a b : Nat) (ha : lo = a) (hb : hi = b) (hab : a ≤ b) (hm : b ≤ xs.length) (hc : xs.length ≤ c) :
    ∃ A' : Option Addr, (∀ W : World, (Instr.slice 22 (.slice A xs.length c) (some (.int .i64 lo)) (some (.int .i64 hi)) none).run Try.prog W = .ok (.slice A' (b - a) (c - a)) W) ∧
      (∀ w : World, (Kd.int .u8).C w A xs.length xs → (Kd.int .u8).C w A' ((xs.take b).drop a).length ((xs.take b).drop a)) ∧ ((xs.take b).drop a).length = b - a := by
  subst ha
  subst hb
  obtain ⟨i0, hi, _, hsz, _⟩ := info_parts info5
  obtain ⟨A', h1, h2, _⟩ := print_mid_of (P := Try.prog) (Value.int .u8) (0 : Int) 22 5 .i64 .i64 Try.underlying22 hi hsz A c xs (a : Int) (b : Int) (by omega) (by omega) (by omega) hc
  have hl : ((xs.take b).drop a).length = b - a := by rw [List.length_drop, List.length_take, Nat.min_eq_left hm]
  refine ⟨A', fun W => ?_, fun w hr => Kd.C_of_reads (h1 := fun _ => rfl) (h2 w (Kd.reads_of_C hr)), hl⟩
  have := h1 W
  simp only [Int.toNat_natCast] at this
  rw [hl] at this
  exact this
theorem chunk_cut (l : List Int) (n : Nat) : (l.take (256 * n + 256)).drop (256 * n) = chunk l n := by
  unfold chunk
  rw [List.drop_take, show 256 * n + 256 - 256 * n = 256 from by omega]
set_option maxHeartbeats 16000000 in
set_option maxRecDepth 100000 in
theorem leveeref32_kind.calls (A0 : Option Addr) (c0 : Nat) (l0 : List Int) (a1 : Int) (r : Int) (w : World) (hr0 : Kd.C (Kd.int .u8) w A0 l0.length l0) (hc0 : l0.length ≤ c0) (h : leveeref32_kind.f l0 a1 = some r) :
    Calls Try.prog 27 #[.slice A0 l0.length c0, .int .i64 a1] w fun e w' => e = .returned (.int .i64 r) ∧ Below w.heap.size w w' := by
  unfold leveeref32_kind.f at h
  split at h
  case isFalse => exact absurd h (by simp)
  rename_i hg
  obtain ⟨hbb, h0, h1, h2⟩ := hg
  have hbytes := bytesB_iff.mp hbb
  have h := Option.some.inj h
  obtain ⟨n, rfl⟩ : ∃ n : Nat, a1 = (n : Int) := ⟨a1.toNat, by omega⟩
  rw [Int.toNat_natCast] at h
  have HB := Aside0.mk (Below.refl w.heap.size w)
  have HR := Aside0.mk h
  have HN : Aside0 (256 * n + 256 ≤ l0.length ∧ l0.length ≤ 1048576) := ⟨by omega⟩
  obtain ⟨lo, hlo⟩ : ∃ lo : Int, lo = ((256 * n : Nat) : Int) := ⟨_, rfl⟩
  obtain ⟨hi, hhi⟩ : ∃ hi : Int, hi = ((256 * n + 256 : Nat) : Int) := ⟨_, rfl⟩
  have w1 : wrap64 (256 * (n : Int)) = lo := by rw [w64 (by omega) (by omega)]; omega
  have w1' : IntKind.i64.wrap (256 * (n : Int)) = lo := (i64_w _).trans w1
  have w2 : wrap64 (lo + 256) = hi := by rw [w64 (by omega) (by omega)]; omega
  have w2' : IntKind.i64.wrap (lo + 256) = hi := (i64_w _).trans w2
  obtain ⟨A1, hcut1, hC1, hl1⟩ := mid_cut A0 c0 l0 lo hi (256 * n) (256 * n + 256) hlo hhi (by omega) (by omega) hc0
  have b1 : 0 ≤ lo := by omega
  have b2 : lo ≤ hi := by omega
  have b3 : hi ≤ (c0 : Int) := by omega
  obtain ⟨x, hx⟩ : ∃ x, x = chunk l0 n := ⟨_, rfl⟩
  rw [chunk_cut, ← hx] at hC1 hl1
  have hx256 : x.length = 256 := by omega
  have HX : Aside0 ((Kd.int .u8).C w A1 x.length x) := ⟨hC1 w hr0⟩
  rw [show 256 * n + 256 - 256 * n = 256 from by omega] at hcut1
  obtain ⟨z, hz⟩ : ∃ z, z = zeroS x := ⟨_, rfl⟩
  have HZ : Aside0 (z = zeroS x) := ⟨hz⟩
  have cZ : Aside0 (∀ w' : World, Below w.heap.size w w' → Calls Try.prog 24 #[.slice A1 256 (c0 - 256 * n)] w' fun e w'' => e = .returned (.bool z) ∧ Below w'.heap.size w' w'') := ⟨fun w' hb => by
    have q := leveeref01_Zero.calls 257 A1 (c0 - 256 * n) x z w' (Kd.C_below HX.out hb) (by omega) (by rw [hz]; exact refZero_eq 257 x (by omega) (by omega))
    rw [hx256] at q
    exact q.mono fun e w'' hq => ⟨hq.1, below_drawn0 hq.2⟩⟩
  have HXE := Aside0.mk (⟨hx, hx256⟩ : x = chunk l0 n ∧ x.length = 256)
  have HR0 := Aside0.mk hr0
  have HC0 := Aside0.mk hc0
  have HBY := Aside0.mk hbytes
  clear hz hx hC1 hl1 hr0 hbytes hbb h h0 h1 h2 hx256 hc0
  have HLO : Aside0 (lo = ((256 * n : Nat) : Int) ∧ hi = ((256 * n + 256 : Nat) : Int)) := ⟨hlo, hhi⟩
  clear hlo hhi
  cases z
  case true =>
    have hr : r = 0 := by rw [← HR.out]; unfold kindN kindP; rw [← HXE.out.1, if_pos HZ.out.symm]
    subst hr
    go_enter Try.func27, Try.ntmps27
    go_wp2_with (first
      | (go_at_call 24; go_loud ((with_reducible refine (cZ.out _ HB.out).mono ?_); rintro e w_ ⟨rfl, hb⟩; have zB := below_step HB.out hb; clear HB hb; have HB := Aside0.mk zB; clear zB)))
    go_ret
    exact ⟨rfl, HB.out⟩
  have hzz : ¬ zeroS x = true := by rw [← HZ.out]; decide
  by_cases hn : n = 0
  · have hr : r = 1 := by rw [← HR.out]; unfold kindN kindP; rw [← HXE.out.1, if_neg hzz, hn]; exact if_neg (fun h => h.1 rfl)
    subst hr
    have hn1 : ¬ 0 < n := by omega
    clear hn hzz
    go_enter Try.func27, Try.ntmps27
    go_wp2_with (first
      | (go_at_call 24; go_loud ((with_reducible refine (cZ.out _ HB.out).mono ?_); rintro e w_ ⟨rfl, hb⟩; have zB := below_step HB.out hb; clear HB hb; have HB := Aside0.mk zB; clear zB)))
    go_quiet (fail)
    go_wp2
    go_ret
    exact ⟨rfl, pw_below_drewN HB.out _⟩
  · obtain ⟨m, hm⟩ : ∃ m, n = m + 1 := ⟨n - 1, by omega⟩
    obtain ⟨pr, hpr⟩ : ∃ pr : Int, pr = ((256 * m : Nat) : Int) := ⟨_, rfl⟩
    have w3 : wrap64 (lo - 256) = pr := by rw [HLO.out.1, w64 (by have := HN.out; omega) (by have := HN.out; omega)]; omega
    have w3' : IntKind.i64.wrap (lo - 256) = pr := (i64_w _).trans w3
    obtain ⟨A2, hcut2, hC2, hl2⟩ := mid_cut A0 c0 l0 pr lo (256 * m) (256 * m + 256) hpr (by rw [HLO.out.1, hm]; omega) (by omega) (by have := HN.out; omega) HC0.out
    obtain ⟨y, hy⟩ : ∃ y, y = chunk l0 m := ⟨_, rfl⟩
    rw [chunk_cut, ← hy] at hC2 hl2
    have hy256 : y.length = 256 := by omega
    have HY : Aside0 ((Kd.int .u8).C w A2 y.length y) := ⟨hC2 w HR0.out⟩
    rw [show 256 * m + 256 - 256 * m = 256 from by omega] at hcut2
    have b4 : 0 ≤ pr := by omega
    have b5 : pr ≤ lo := by rw [HLO.out.1, hpr]; omega
    have b6 : lo ≤ (c0 : Int) := by have := HLO.out; have := HN.out; have := HC0.out; omega
    have hn1 : 0 < n := by omega
    obtain ⟨s1, hs1⟩ : ∃ s, s = strOfNums x := ⟨_, rfl⟩
    obtain ⟨s2, hs2⟩ : ∃ s, s = strOfNums y := ⟨_, rfl⟩
    obtain ⟨t, ht⟩ : ∃ t, t = decide (x = y) := ⟨_, rfl⟩
    have hst : (s1.toList = s2.toList) ↔ x = y := by rw [hs1, hs2]; exact str_inj (by rw [HXE.out.1]; exact chunk_bytes HBY.out _) (by rw [hy]; exact chunk_bytes HBY.out _)
    have HS : Aside0 ((s1.toList == s2.toList) = t) := ⟨by rw [ht, Bool.eq_iff_iff, beq_iff_eq, decide_eq_true_iff]; exact hst⟩
    have hr : r = if t = true then 2 else 1 := by
      rw [← HR.out]
      unfold kindN kindP
      rw [← HXE.out.1, if_neg hzz, hm]
      show (if chunk l0 m ≠ [] ∧ x = chunk l0 m then (2 : Int) else 1) = _
      rw [← hy, ht]
      have hne : y ≠ [] := fun e => by rw [e] at hy256; cases hy256
      by_cases e : x = y
      · rw [if_pos ⟨hne, e⟩, if_pos (decide_eq_true e)]
      · rw [if_neg (fun q => e q.2), if_neg (by rw [decide_eq_true_iff]; exact e)]
    have HC1s : Aside0 (∀ W : World, Below w.heap.size w W → (convert 22 9 (.slice A1 256 (c0 - 256 * n))).run Try.prog W = .ok (.string s1) W) := ⟨fun W hb => by
      rw [hs1]; have q := Kd.C_below HX.out hb; rw [HXE.out.2] at q; exact Kd.C_string Try.underlying22 Try.underlying5 Try.underlying9 q⟩
    have HC2s : Aside0 (∀ W : World, Below w.heap.size w W → (convert 22 9 (.slice A2 256 (c0 - 256 * m))).run Try.prog W = .ok (.string s2) W) := ⟨fun W hb => by
      rw [hs2]; have q := Kd.C_below HY.out hb; rw [hy256] at q; exact Kd.C_string Try.underlying22 Try.underlying5 Try.underlying9 q⟩
    clear hst ht hs1 hs2 hC2 hl2 hy256 hy hpr hm hn hzz
    go_enter Try.func27, Try.ntmps27
    go_wp2_with (first
      | (go_at_call 24; go_loud ((with_reducible refine (cZ.out _ HB.out).mono ?_); rintro e w_ ⟨rfl, hb⟩; have zB := below_step HB.out hb; clear HB hb; have HB := Aside0.mk zB; clear zB; have hv1 : ∀ nd, (convert 22 9 (.slice A1 256 (c0 - 256 * n))).run Try.prog (w_.drewN nd) = .ok (.string s1) (w_.drewN nd) := (fun nd => HC1s.out _ (pw_below_drewN HB.out nd)); have hv2 : ∀ nd, (convert 22 9 (.slice A2 256 (c0 - 256 * m))).run Try.prog (w_.drewN nd) = .ok (.string s2) (w_.drewN nd) := (fun nd => HC2s.out _ (pw_below_drewN HB.out nd)))))
    have hst := HS.out
    cases t
    all_goals
      subst hr
      go_quiet (fail)
      go_wp2
      go_ret
      exact ⟨rfl, pw_below_drewN HB.out _⟩
end Go.Proofs.Ytnlneiiccoakjaa.P
