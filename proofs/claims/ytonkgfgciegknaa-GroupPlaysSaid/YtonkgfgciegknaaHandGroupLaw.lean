/-
What the law GroupBytes calls, told by one value for the program and the reference: an error as well.
Conditions: none.
-/
import Derived.Test.YtonkgfgciegknaaGroupPlain2
import Derived.Test.YtonkgfgciegknaaHandGroupSame
import Derived.Test.YtonkgfgciegknaaHandGroupGiven
namespace Go.Proofs.Ytonkgfgciegknaa.P
open Go.RowKit Go.Proofs.YtonkgfgciegknaaW.PrintWords Go.Proofs.YtonkgfgciegknaaW.PrintLast Go.Proofs.YtonkgfgciegknaaW.PrintMore
attribute [local go_sem] max2_int min2_int max_two min_two max_three min_three max_four min_four
set_option linter.unusedVariables false
set_option linter.unusedSimpArgs false
/-- With an error there is no header. -/
def ZeroOn (p : Int × List Int × List Int × Int) : Prop := p.2.2.2 ≠ 0 → p.1 = 0 ∧ p.2.1 = zeros 16 ∧ p.2.2.1 = zeros 8
/-- The reference's header of what the program tells. -/
def RecOk (w : World) (p : Int × List Int × List Int × Int) (no : Int) (A1 : Option Addr) (n1 c1 : Nat) (A2 : Option Addr) (n2 c2 : Nat) : Prop :=
  p.2.2.2 = 0 → no = p.1 ∧ n1 = 16 ∧ n2 = 8 ∧ HM p.2.1 p.2.2.1 ∧ Row8 w (.slice A1 16 c1) p.2.1 ∧ Row8 w (.slice A2 8 c2) p.2.2.1
theorem RecOk.below {w w1 : World} {p : Int × List Int × List Int × Int} {no : Int} {A1 A2 : Option Addr} {n1 c1 n2 c2 : Nat} (h : RecOk w p no A1 n1 c1 A2 n2 c2) (hb : Below w.heap.size w w1) : RecOk w1 p no A1 n1 c1 A2 n2 c2 :=
  fun e => ⟨(h e).1, (h e).2.1, (h e).2.2.1, (h e).2.2.2.1, (h e).2.2.2.2.1.below hb, (h e).2.2.2.2.2.below hb⟩
theorem RecOk.drew {w : World} {p : Int × List Int × List Int × Int} {no : Int} {A1 A2 : Option Addr} {n1 c1 n2 c2 : Nat} (h : RecOk w p no A1 n1 c1 A2 n2 c2) : RecOk w.drew p no A1 n1 c1 A2 n2 c2 := h
theorem same_u (p : Int × List Int × List Int × Int) (no : Int) (A1 : Option Addr) (n1 c1 : Nat) (A2 : Option Addr) (n2 c2 : Nat) (w : World) (hz : ZeroOn p) (h : RecOk w p no A1 n1 c1 A2 n2 c2) :
    Calls Try.prog 15 #[headV p.1 p.2.1 p.2.2.1, .int .i64 p.2.2.2, .agg #[.int .i64 no, .slice A1 n1 c1, .slice A2 n2 c2], .int .i64 p.2.2.2] w fun e w' => e = .returned (.bool true) ∧ Below w.heap.size w w' := by
  by_cases e : p.2.2.2 = 0
  · obtain ⟨rfl, rfl, rfl, hm, h1, h2⟩ := h e
    rw [e]
    exact same_yes _ _ _ _ _ _ _ w hm h1 h2
  · obtain ⟨z1, z2, z3⟩ := hz e
    rw [z1, z2, z3]
    exact same_err _ _ _ _ _ _ _ _ w e
def freshP (G I N no : Int) : Int × List Int × List Int × Int := if okS G I N no = true then (no, onesL (1 + I / 4).toNat, slots0 no, 0) else (0, zeros 16, zeros 8, 1)
theorem fresh_zero (G I N no : Int) : ZeroOn (freshP G I N no) := by
  unfold freshP
  split
  · exact fun h => (h rfl).elim
  · exact fun _ => ⟨rfl, rfl, rfl⟩
theorem fresh_u (G I N no : Int) (w : World) :
    Calls Try.prog 13 #[.agg #[.int .i64 G, .int .i64 I, .int .i64 N], .int .i64 no] w fun e w' => e = .returned (.tuple #[headV (freshP G I N no).1 (freshP G I N no).2.1 (freshP G I N no).2.2.1, .int .i64 (freshP G I N no).2.2.2]) ∧ Below w.heap.size w w' := by
  unfold freshP
  by_cases h : okS G I N no = true
  · rw [if_pos h]; exact fresh_yes G I N no w h
  · rw [if_neg h]; exact fresh_no G I N no w (Bool.eq_false_iff.mpr h)
theorem fresh_HM {G I N no : Int} (h : okS G I N no = true) : HM (onesL (1 + I / 4).toNat) (slots0 no) := by
  have q := h
  simp only [okS, Bool.and_eq_true, decide_eq_true_eq] at q
  have hg := Geo.R_iff.mp q.1.1
  exact ⟨fresh_maps _ no, ones_bytes ⟨(1 + I / 4).toNat, by omega⟩, slots_bytes no⟩
theorem recOk_of {w : World} (p q : Int × List Int × List Int × Int) (hk : (q = p ∧ HM p.2.1 p.2.2.1) ∨ (p.2.2.2 ≠ 0 ∧ q.2.2.2 = p.2.2.2)) {v1 v2 : Value} (r1 : Row8 w v1 q.2.1) (r2 : Row8 w v2 q.2.2.1) :
    ∃ (A1 : Option Addr) (n1 c1 : Nat) (A2 : Option Addr) (n2 c2 : Nat), v1 = .slice A1 n1 c1 ∧ v2 = .slice A2 n2 c2 ∧ q.2.2.2 = p.2.2.2 ∧ RecOk w p q.1 A1 n1 c1 A2 n2 c2 := by
  obtain ⟨A1, c1, rfl, _⟩ := r1.slice
  obtain ⟨A2, c2, rfl, _⟩ := r2.slice
  rcases hk with ⟨rfl, hm⟩ | ⟨hp, hq⟩
  · rw [hm.maps.1] at r1
    rw [hm.maps.2] at r2
    exact ⟨A1, _, c1, A2, _, c2, rfl, rfl, rfl, fun _ => ⟨rfl, hm.maps.1, hm.maps.2, hm, r1, r2⟩⟩
  · exact ⟨A1, _, c1, A2, _, c2, rfl, rfl, hq, fun e => absurd e hp⟩
theorem fresh_key (G I N no : Int) : (freshR G I N no = freshP G I N no ∧ HM (freshP G I N no).2.1 (freshP G I N no).2.2.1) ∨ ((freshP G I N no).2.2.2 ≠ 0 ∧ (freshR G I N no).2.2.2 = (freshP G I N no).2.2.2) := by
  unfold freshR freshP
  by_cases h : okS G I N no = true
  · rw [if_pos h, if_pos h]; exact .inl ⟨rfl, fresh_HM h⟩
  · rw [if_neg h, if_neg h]; exact .inr ⟨by decide, rfl⟩
theorem refFresh_u (G I N no : Int) (w : World) :
    Calls Try.prog 14 #[.agg #[.int .i64 G, .int .i64 I, .int .i64 N], .int .i64 no] w fun e w' => ∃ (no' : Int) (A1 : Option Addr) (n1 c1 : Nat) (A2 : Option Addr) (n2 c2 : Nat), e = .returned (.tuple #[.agg #[.int .i64 no', .slice A1 n1 c1, .slice A2 n2 c2], .int .i64 (freshP G I N no).2.2.2]) ∧ RecOk w' (freshP G I N no) no' A1 n1 c1 A2 n2 c2 ∧ Below w.heap.size w w' := by
  refine (leveeref06_Fresh.calls 40 G I N no (freshR G I N no).1 (freshR G I N no).2.1 (freshR G I N no).2.2.1 (freshR G I N no).2.2.2 w (by rw [refFresh_eq G I N no 40 (by decide)])).mono ?_
  rintro e w' ⟨v1, v2, rfl, h1, h2, hb⟩
  obtain ⟨A1, n1, c1, A2, n2, c2, rfl, rfl, he, hr⟩ := recOk_of _ _ (fresh_key G I N no) (Row8.of_R h1) (Row8.of_R h2)
  exact ⟨_, A1, n1, c1, A2, n2, c2, by rw [he], hr, hb⟩
/-- A row lent, and whether it was kept. -/
def LentAt (w : World) (A : Option Addr) (c : Nat) (l : List Int) : Prop := ∃ base ok, TQ.Q (Kd.int .u8) 5 w base ok (.slice A l.length c) l
theorem LentAt.below {w w1 : World} {A : Option Addr} {c : Nat} {l : List Int} (h : LentAt w A c l) (hb : Below w.heap.size w w1) : LentAt w1 A c l := by
  obtain ⟨b, ok, q⟩ := h
  exact ⟨b, ok, TQ.Q_below q hb⟩
theorem LentAt.drew {w : World} {A : Option Addr} {c : Nat} {l : List Int} (h : LentAt w A c l) : LentAt w.drew A c l := by
  obtain ⟨b, ok, q⟩ := h
  exact ⟨b, ok, TQ.Q_drew q⟩
theorem LentAt.le {w : World} {A : Option Addr} {c : Nat} {l : List Int} (h : LentAt w A c l) : l.length ≤ c := by
  obtain ⟨b, ok, q⟩ := h
  exact (TQ.Q_reads' q).2.1
theorem LentAt.C {w : World} {A : Option Addr} {c : Nat} {l : List Int} (h : LentAt w A c l) : Kd.C (Kd.int .u8) w A l.length l := by
  obtain ⟨b, ok, q⟩ := h
  exact (TQ.Q_reads' q).2.2
theorem LentAt.other {w w1 : World} {A : Option Addr} {c : Nat} {l : List Int} {g : Nat} {cs : Array Value} {t : TypeId} (h : LentAt w A c l) (hg : w.heap[g]? = some (.cells cs t (0, 0))) (ht : t ≠ 5) (ho : ∀ k, k ≠ g → w1.heap[k]? = w.heap[k]?) : LentAt w1 A c l := by
  obtain ⟨b, ok, q⟩ := h
  exact ⟨b, _, TQ.Q_step (TQ.Q_types q hg (fun q hq => by rcases List.mem_cons.mp hq with rfl | hq; exact fun e => ht e.symm; exact absurd (show q ∈ ([] : List Nat) from hq) List.not_mem_nil)) (fun k hk _ => ho k hk.2)⟩
theorem RecOk.other {w w1 : World} {p : Int × List Int × List Int × Int} {no : Int} {A1 A2 : Option Addr} {n1 c1 n2 c2 : Nat} {g : Nat} {cs : Array Value} {t : TypeId} (h : RecOk w p no A1 n1 c1 A2 n2 c2) (hg : w.heap[g]? = some (.cells cs t (0, 0))) (ht : t ≠ 5) (ho : ∀ k, k ≠ g → w1.heap[k]? = w.heap[k]?) : RecOk w1 p no A1 n1 c1 A2 n2 c2 :=
  fun e => ⟨(h e).1, (h e).2.1, (h e).2.2.1, (h e).2.2.2.1, (h e).2.2.2.2.1.other hg ht ho, (h e).2.2.2.2.2.other hg ht ho⟩
theorem freshP_maps (G I N no : Int) : Maps (freshP G I N no).2.1 (freshP G I N no).2.2.1 := by
  unfold freshP
  split
  · exact fresh_maps _ no
  · exact zeros_maps
end Go.Proofs.Ytonkgfgciegknaa.P
