/-
Maps of whole numbers to true: looked up, and one more.
Conditions: none.
-/
import Derived.Test.YthcndfnmgggblaaProg
import Derived.Below
import Derived.Deep.Draws
import Derived.Deep.AppendLies
import Derived.Maps.AppendAt
import Derived.OwnWalk
import Derived.Laws.BytesArg
import Derived.Laws.MakeOwn
import Derived.Laws.OwnMore
import Derived.Deep.OwnRows
import Derived.Tactics
import Derived.Lib.ConvBytes
import Derived.Laws.Slices
import Derived.WalkKit
import Derived.KernelRfl
import Derived.RowKit3
import Derived.Deep.LoopGhost
import Derived.Deep.QuietTactic
import Derived.BigQuiet
import Derived.WideLaws
import Derived.Deep.DeepCutAuto
import Derived.Deep.CutBlock
import Derived.Deep.RegionHeld3
import Derived.Laws.Rows
import Derived.Lib.AppendStr
import Derived.ArgAppend
import Derived.Laws.IdiomCopy
import Derived.OrdersHeld
import Derived.Laws.BitsLemmas
import Derived.RowKit
import Derived.Test.YthcndfnmgggblaaWWords
import Derived.Test.YthcndfnmgggblaaWLast
import Derived.Test.YthcndfnmgggblaaWTab
import Derived.Test.YthcndfnmgggblaaWFour
import Derived.Test.YthcndfnmgggblaaWQPut
import Derived.Test.YthcndfnmgggblaaWApart
import Derived.Test.YthcndfnmgggblaaWArr
import Derived.Test.YthcndfnmgggblaaWZeros
import Derived.Test.YthcndfnmgggblaaWFoot
import Derived.Test.YthcndfnmgggblaaWKept
import Derived.Test.YthcndfnmgggblaaWShare
import Derived.Test.YthcndfnmgggblaaWN
import Derived.Test.YthcndfnmgggblaaWFootNe
import Derived.Test.YthcndfnmgggblaaWAt
import Derived.Test.YthcndfnmgggblaaWEqStruct
import Derived.Test.YthcndfnmgggblaaWRepsOne
import Derived.Test.YthcndfnmgggblaaWInv
import Derived.Test.YthcndfnmgggblaaWInvWords
import Derived.Test.YthcndfnmgggblaaWGuard
import Derived.Test.YthcndfnmgggblaaWNEv
import Derived.Test.YthcndfnmgggblaaWMore
import Derived.StringKeys
namespace Go.Proofs.Ythcndfnmgggblaa.P
open Go.RowKit Go.Proofs.YthcndfnmgggblaaW.PrintWords Go.Proofs.YthcndfnmgggblaaW.PrintLast Go.Proofs.YthcndfnmgggblaaW.PrintMore
attribute [local go_sem] max2_int min2_int max_two min_two max_three min_three max_four min_four
set_option linter.unusedVariables false
set_option linter.unusedSimpArgs false
/-- A map of whole numbers to true: just these. -/
def MapOf (es : Array MapEntry) (l : List Int) : Prop := es.toList.map (fun e => (e.key, e.val)) = l.map (fun x => (Value.int .i64 x, Value.bool true))
theorem MapOf.key {es : Array MapEntry} {l : List Int} (h : MapOf es l) {e : MapEntry} (he : e ∈ es.toList) : ∃ x ∈ l, e.key = .int .i64 x ∧ e.val = .bool true := by
  have : (e.key, e.val) ∈ es.toList.map (fun e => (e.key, e.val)) := List.mem_map_of_mem he
  rw [h, List.mem_map] at this
  obtain ⟨x, hx, h⟩ := this
  injection h with h1 h2
  exact ⟨x, hx, h1.symm, h2.symm⟩
theorem MapOf.mem {es : Array MapEntry} {l : List Int} (h : MapOf es l) {x : Int} (hx : x ∈ l) : ∃ e ∈ es.toList, e.key = .int .i64 x := by
  have : (Value.int .i64 x, Value.bool true) ∈ l.map (fun x => (Value.int .i64 x, Value.bool true)) := List.mem_map_of_mem hx
  rw [← h, List.mem_map] at this
  obtain ⟨e, he, h⟩ := this
  injection h with h1 h2
  exact ⟨e, he, h1⟩
theorem MapOf.keys {es : Array MapEntry} {l : List Int} (h : MapOf es l) : ∀ e ∈ es.toList, MapKept.IsKey (.int .i64) e.key := by
  intro e he
  obtain ⟨x, _, hk, _⟩ := h.key he
  rw [hk]
  rfl
theorem map_lookup {P : Program} {w : World} {t k e : TypeId} {g : Nat} {es : Array MapEntry} {clock : Nat} {l : List Int} (ht : P.underlying t = some (.map k e)) (hk : P.underlying k = some (.int .i64)) (hz : (zeroValue e).run P w = .ok (.bool false) w)
    (hg : w.heap[g]? = some (.map es clock)) (hm : MapOf es l) (n : Int) : (Instr.lookup t (.map (some g)) (.int .i64 n) false).run P w = .ok (.bool (decide (n ∈ l))) w := by
  have hc := MapKept.run_checkKey (P := P) (w := w) hk (d := .int .i64) (k := .int .i64 n) rfl es.isEmpty 9999
  rcases MapKept.findNow_spec (d := .int .i64) (k := .int .i64 n) rfl es.toList 0 hm.keys with ⟨h1, h2⟩ | ⟨j, e0, h1, h2, h3⟩
  · have hf := MapKept.run_findKey (P := P) (w := w) hk h1
    have hn : n ∉ l := fun hn => by
      obtain ⟨e1, he, hk1⟩ := hm.mem hn
      exact h2 e1 he hk1
    rw [decide_eq_false hn]
    simp [Instr.lookup, run_underlying ht, MapKept.run_getObj_map hg, hc, hf, hz, Result.andThen]
  · have hf := MapKept.run_findKey (P := P) (w := w) hk h1
    obtain ⟨x, hx, hk1, hv⟩ := hm.key (List.mem_of_getElem? h2)
    have hn : n ∈ l := by
      rw [hk1] at h3
      injection h3 with _ h3
      rwa [← h3]
    rw [decide_eq_true hn]
    simp [Instr.lookup, run_underlying ht, MapKept.run_getObj_map hg, hc, hf, hv, Result.andThen]
theorem map_update {P : Program} {w : World} {t k e : TypeId} {g : Nat} {es : Array MapEntry} {clock : Nat} {l : List Int} (ht : P.underlying t = some (.map k e)) (hk : P.underlying k = some (.int .i64))
    (hg : w.heap[g]? = some (.map es clock)) (hm : MapOf es l) (n : Int) (hn : n ∉ l) : (Instr.mapUpdate t (.map (some g)) (.int .i64 n) (.bool true)).run P w = .ok () { w with heap := w.heap.setIfInBounds g (.map (es.push ⟨.int .i64 n, .bool true, clock⟩) (clock + 1)) } ∧ MapOf (es.push ⟨.int .i64 n, .bool true, clock⟩) (l ++ [n]) := by
  have hc := MapKept.run_checkKey (P := P) (w := w) hk (d := .int .i64) (k := .int .i64 n) rfl false 9999
  constructor
  · rcases MapKept.findNow_spec (d := .int .i64) (k := .int .i64 n) rfl es.toList 0 hm.keys with ⟨h1, h2⟩ | ⟨j, e0, h1, h2, h3⟩
    · have hf := MapKept.run_findKey (P := P) (w := w) hk h1
      simp [Instr.mapUpdate, run_underlying ht, MapKept.run_getObj_map hg, hc, hf, MapKept.run_setObj_map _ hg, Result.andThen]
    · obtain ⟨x, hx, hk1, hv⟩ := hm.key (List.mem_of_getElem? h2)
      rw [hk1] at h3
      injection h3 with _ h3
      exact absurd (h3 ▸ hx) hn
  · unfold MapOf
    rw [Array.toList_push, List.map_append, List.map_append, hm]
    rfl
end Go.Proofs.Ythcndfnmgggblaa.P
