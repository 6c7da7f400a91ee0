/-
What the law GroupBytes calls, told by one value for the program and the reference: an error as well.
Conditions: none.
-/
import Derived.Test.YtonkgfgciegknaaGroupPlain2
import Derived.Test.YtonkgfgciegknaaHandGroupSame
import Derived.Test.YtonkgfgciegknaaHandGroupGiven
namespace Go.Proofs.Ytonkgfgciegknaa.P
open Go.RowKit Go.Proofs.YtonkgfgciegknaaW.PrintWords Go.Proofs.YtonkgfgciegknaaW.PrintLast Go.Proofs.YtonkgfgciegknaaW.PrintMore
attribute [local go_sem] max2_int min2_int max_two min_two max_three min_three max_four min_four
set_option linter.unusedVariables false
set_option linter.unusedSimpArgs false
/-- The reference's header of what the program tells. -/
def RecOk (w : World) (p : Int × List Int × List Int × Int) (no : Int) (A1 : Option Addr) (n1 c1 : Nat) (A2 : Option Addr) (n2 c2 : Nat) : Prop :=
  p.2.2.2 = 0 → no = p.1 ∧ n1 = 16 ∧ n2 = 8 ∧ HM p.2.1 p.2.2.1 ∧ Row8 w (.slice A1 16 c1) p.2.1 ∧ Row8 w (.slice A2 8 c2) p.2.2.1
theorem RecOk.below {w w1 : World} {p : Int × List Int × List Int × Int} {no : Int} {A1 A2 : Option Addr} {n1 c1 n2 c2 : Nat} (h : RecOk w p no A1 n1 c1 A2 n2 c2) (hb : Below w.heap.size w w1) : RecOk w1 p no A1 n1 c1 A2 n2 c2 :=
  fun e => ⟨(h e).1, (h e).2.1, (h e).2.2.1, (h e).2.2.2.1, (h e).2.2.2.2.1.below hb, (h e).2.2.2.2.2.below hb⟩
theorem RecOk.drew {w : World} {p : Int × List Int × List Int × Int} {no : Int} {A1 A2 : Option Addr} {n1 c1 n2 c2 : Nat} (h : RecOk w p no A1 n1 c1 A2 n2 c2) : RecOk w.drew p no A1 n1 c1 A2 n2 c2 := h
theorem fresh_HM {G I N no : Int} (h : okS G I N no = true) : HM (onesL (1 + I / 4).toNat) (slots0 no) := by
  have q := h
  simp only [okS, Bool.and_eq_true, decide_eq_true_eq] at q
  have hg := Geo.R_iff.mp q.1.1
  exact ⟨fresh_maps _ no, ones_bytes ⟨(1 + I / 4).toNat, by omega⟩, slots_bytes no⟩
/-- A row lent, and whether it was kept. -/
def LentAt (w : World) (A : Option Addr) (c : Nat) (l : List Int) : Prop := ∃ base ok, TQ.Q (Kd.int .u8) 5 w base ok (.slice A l.length c) l
theorem LentAt.below {w w1 : World} {A : Option Addr} {c : Nat} {l : List Int} (h : LentAt w A c l) (hb : Below w.heap.size w w1) : LentAt w1 A c l := by
  obtain ⟨b, ok, q⟩ := h
  exact ⟨b, ok, TQ.Q_below q hb⟩
theorem LentAt.drew {w : World} {A : Option Addr} {c : Nat} {l : List Int} (h : LentAt w A c l) : LentAt w.drew A c l := by
  obtain ⟨b, ok, q⟩ := h
  exact ⟨b, ok, TQ.Q_drew q⟩
theorem LentAt.C {w : World} {A : Option Addr} {c : Nat} {l : List Int} (h : LentAt w A c l) : Kd.C (Kd.int .u8) w A l.length l := by
  obtain ⟨b, ok, q⟩ := h
  exact (TQ.Q_reads' q).2.2
theorem LentAt.other {w w1 : World} {A : Option Addr} {c : Nat} {l : List Int} {g : Nat} {cs : Array Value} {t : TypeId} (h : LentAt w A c l) (hg : w.heap[g]? = some (.cells cs t (0, 0))) (ht : t ≠ 5) (ho : ∀ k, k ≠ g → w1.heap[k]? = w.heap[k]?) : LentAt w1 A c l := by
  obtain ⟨b, ok, q⟩ := h
  exact ⟨b, _, TQ.Q_step (TQ.Q_types q hg (fun q hq => by rcases List.mem_cons.mp hq with rfl | hq; exact fun e => ht e.symm; exact absurd (show q ∈ ([] : List Nat) from hq) List.not_mem_nil)) (fun k hk _ => ho k hk.2)⟩
theorem RecOk.other {w w1 : World} {p : Int × List Int × List Int × Int} {no : Int} {A1 A2 : Option Addr} {n1 c1 n2 c2 : Nat} {g : Nat} {cs : Array Value} {t : TypeId} (h : RecOk w p no A1 n1 c1 A2 n2 c2) (hg : w.heap[g]? = some (.cells cs t (0, 0))) (ht : t ≠ 5) (ho : ∀ k, k ≠ g → w1.heap[k]? = w.heap[k]?) : RecOk w1 p no A1 n1 c1 A2 n2 c2 :=
  fun e => ⟨(h e).1, (h e).2.1, (h e).2.2.1, (h e).2.2.2.1, (h e).2.2.2.2.1.other hg ht ho, (h e).2.2.2.2.2.other hg ht ho⟩
end Go.Proofs.Ytonkgfgciegknaa.P
