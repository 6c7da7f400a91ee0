/-
A region that draws its order, whose operations keep an invariant and tell the same whatever was done ahead of them: calls too. Such operations are taken in any one order.
Conditions: none.
-/
import Derived.Test.YtnlneiiccoakjaaProg
import Derived.Below
import Derived.Deep.Draws
import Derived.Deep.AppendLies
import Derived.Maps.AppendAt
import Derived.OwnWalk
import Derived.Laws.BytesArg
import Derived.Laws.MakeOwn
import Derived.Laws.OwnMore
import Derived.Deep.OwnRows
import Derived.Tactics
import Derived.Lib.ConvBytes
import Derived.Laws.Slices
import Derived.WalkKit
import Derived.KernelRfl
import Derived.RowKit3
import Derived.Deep.LoopGhost
import Derived.Deep.QuietTactic
import Derived.BigQuiet
import Derived.WideLaws
import Derived.Deep.DeepCutAuto
import Derived.Deep.CutBlock
import Derived.Deep.RegionHeld3
import Derived.Laws.Rows
import Derived.Lib.AppendStr
import Derived.ArgAppend
import Derived.Laws.IdiomCopy
import Derived.OrdersHeld
import Derived.Laws.BitsLemmas
import Derived.RowKit
import Derived.Test.YtnlneiiccoakjaaWWords
namespace Go.Proofs.Ytnlneiiccoakjaa.P
open Go.RowKit Go.Proofs.YtnlneiiccoakjaaW.PrintWords Go.Proofs.YtnlneiiccoakjaaW.PrintLast Go.Proofs.YtnlneiiccoakjaaW.PrintMore
attribute [local go_sem] max2_int min2_int max_two min_two max_three min_three max_four min_four
set_option linter.unusedVariables false
set_option linter.unusedSimpArgs false
namespace QN
section
variable {P : Program} {ops : Array Oper} {md : Region.Mode} {σ : Type} {S : σ → World → Prop} {Q : Exit → Act → World → Prop} {ds : List Nat}
/-- What an operation's run may come to: the value v, and the invariant again. -/
def QRun (P : Program) (S : World → Prop) (v : Value) : Result Next → World → Prop
  | .ok (.value u) w', _ => u = v ∧ S w'
  | .ok .skip w', _ => v = undef ∧ S w'
  | .ok (.enter f args) w', _ => Calls P f args w' fun e w'' => e = .returned v ∧ S w''
  | _, _ => False
def QuietAt (P : Program) (ops : Array Oper) (S : σ → World → Prop) (o : Oper) (v : Value) (a : Act) : Prop :=
  (Region.wanted o (yielded ops a.tmps) = true ∧ ∀ x w, S x w → QRun P (S x) v ((execOp a.eval o).run P w) w) ∨ (Region.wanted o (yielded ops a.tmps) = false ∧ v = undef)
/-- What the run of an operation may come to whose value depends on the world: a new block, or what a call tells. -/
def NRun (P : Program) (S : σ → World → Prop) (f : σ → Value) : Result Next → Prop
  | .ok (.value u) w' => ∃ x', u = f x' ∧ S x' w'
  | .ok .skip w' => ∃ x', undef = f x' ∧ S x' w'
  | .ok (.enter g args) w' => Calls P g args w' fun e w'' => ∃ x', e = .returned (f x') ∧ S x' w''
  | _ => False
/-- A new block: its address depends on the world; or a call that tells one. -/
def NewAt (P : Program) (ops : Array Oper) (S : σ → World → Prop) (o : Oper) (f : σ → Value) (a : Act) (x : σ) (Nw : σ → Prop := fun _ => True) : Prop :=
  Region.wanted o (yielded ops a.tmps) = true ∧ ∀ w, S x w → NRun P (fun x' w' => Nw x' ∧ S x' w') f ((execOp a.eval o).run P w)
theorem QuietAt.wpOp {i : Nat} {o : Oper} {v : Value} {a : Act} {x : σ} {w : World} {K : Act → World → Prop} (hi : ops[i]? = some o) (hq : QuietAt P ops S o v a) (hS : S x w) (h : ∀ w', S x w' → K (a.put o.dst v) w') : wpOp P ops Q i K a w := by
  unfold Go.wpOp
  simp only [hi]
  rcases hq with ⟨hw, hr⟩ | ⟨hw, rfl⟩
  · rw [if_pos hw]
    refine .inl ?_
    have hr := hr x w hS
    unfold Oper.wp
    generalize (execOp a.eval o).run P w = r at hr
    cases r with
    | ok n w' =>
      cases n
      case value u => obtain ⟨rfl, hs⟩ := hr; exact h _ hs
      case skip => obtain ⟨rfl, hs⟩ := hr; exact h _ hs
      case enter f args =>
        rw [Oper.upon_enter]
        refine Calls.mono hr ?_
        rintro e w'' ⟨rfl, hs⟩
        exact h _ hs
      all_goals exact hr.elim
    | halt x w' => exact hr.elim
  · rw [if_neg (by rw [hw]; decide)]
    exact h _ hS
theorem NewAt.wpOp {i : Nat} {o : Oper} {f : σ → Value} {a : Act} {x : σ} {Nw : σ → Prop} {w : World} {K : Act → World → Prop} (hi : ops[i]? = some o) (hq : NewAt P ops S o f a x Nw) (hS : S x w) (h : ∀ x' w', Nw x' → S x' w' → K (a.put o.dst (f x')) w') : wpOp P ops Q i K a w := by
  obtain ⟨hw, hr⟩ := hq
  have hr := hr w hS
  unfold Go.wpOp
  simp only [hi]
  rw [if_pos hw]
  refine .inl ?_
  unfold Oper.wp
  generalize (execOp a.eval o).run P w = r at hr
  cases r with
  | ok n w' =>
    cases n
    case value u => obtain ⟨x', rfl, hn, hs⟩ := hr; exact h _ _ hn hs
    case skip => obtain ⟨x', hu, hn, hs⟩ := hr; have hk := h x' _ hn hs; rw [← hu] at hk; exact hk
    case enter g args =>
      rw [Oper.upon_enter]
      refine Calls.mono hr ?_
      rintro e w'' ⟨x', rfl, hn, hs⟩
      exact h _ _ hn hs
    all_goals exact hr.elim
  | halt x w' => exact hr.elim
theorem QuietAt.of_same {o : Oper} {v : Value} {a a' : Act} (hy : QuietAt P ops S o v a) (he : execOp a'.eval o = execOp a.eval o) (hw : Region.wanted o (yielded ops a'.tmps) = Region.wanted o (yielded ops a.tmps)) : QuietAt P ops S o v a' := by
  unfold QuietAt at *
  rw [he, hw]
  exact hy
theorem NewAt.of_same {o : Oper} {f : σ → Value} {x : σ} {Nw : σ → Prop} {a a' : Act} (hy : NewAt P ops S o f a x Nw) (he : execOp a'.eval o = execOp a.eval o) (hw : Region.wanted o (yielded ops a'.tmps) = Region.wanted o (yielded ops a.tmps)) : NewAt P ops S o f a' x Nw := by
  unfold NewAt at *
  rw [he, hw]
  exact hy
theorem QuietAt.at {o : Oper} {v : Value} {a : Act} (h : QuietAt P ops S o v a) (x : σ) : QuietAt P ops (fun (_ : Unit) => S x) o v a := by
  rcases h with ⟨hw, h⟩ | h
  · exact .inl ⟨hw, fun _ w hS => h x w hS⟩
  · exact .inr h
def qAny (P : Program) (md : Region.Mode) (ops : Array Oper) (Q : Exit → Act → World → Prop) (S : σ → World → Prop) (ds : List Nat) : Nat → Array Bool → Act → σ → Prop
  | 0, l, a, x => Region.ready md ops l = [] ∧ ∀ w, S x w → Q .normal a w
  | fuel + 1, l, a, x => (Region.ready md ops l = [] → ∀ w, S x w → Q .normal a w) ∧ ∀ j ∈ Region.ready md ops l,
      (j ∈ ds ∧ ∀ w, S x w → wpOp P ops Q j (wpAny P md ops Q fuel (l.setIfInBounds j true)) a w) ∨
      (j ∉ ds ∧ ∃ oj, ops[j]? = some oj ∧ ((∃ v, QuietAt P ops (fun (_ : Unit) => S x) oj v a ∧ qAny P md ops Q S ds fuel (l.setIfInBounds j true) (a.put oj.dst v) x) ∨
        ∃ (f : σ → Value) (Nw : σ → Prop), NewAt P ops S oj f a x Nw ∧ ∀ x', Nw x' → qAny P md ops Q S ds fuel (l.setIfInBounds j true) (a.put oj.dst (f x')) x'))
theorem wpAny_of_q : ∀ (fuel : Nat) (l : Array Bool) (a : Act) (x : σ) (w : World), S x w → qAny P md ops Q S ds fuel l a x → wpAny P md ops Q fuel l a w
  | 0, _, _, _, w, hS, h => ⟨h.1, h.2 w hS⟩
  | fuel + 1, l, a, x, w, hS, h => ⟨fun hr => h.1 hr w hS, fun j hj => by
      rcases h.2 j hj with ⟨_, hd⟩ | ⟨_, oj, ho, ⟨v, hq, hr⟩ | ⟨f, Nw, hn, hr⟩⟩
      · exact hd w hS
      · exact QuietAt.wpOp (x := ()) ho hq hS fun w' hs => wpAny_of_q fuel _ _ x w' hs hr
      · exact hn.wpOp ho hS fun x' w' hn' hs => wpAny_of_q fuel _ _ x' w' hs (hr x' hn')⟩
theorem qAny_first {i : Nat} {oi : Oper} {v : Value} (hi : ops[i]? = some oi) (hsel : ∀ (j : Nat) (o : Oper) cs b, ops[j]? = some o → o.op ≠ .select cs b) (n : Nat) (hid : i ∉ ds) :
    ∀ (fuel : Nat) (listed : Array Bool) (a : Act) (x : σ),
      (∀ j oj, ops[j]? = some oj → j ≠ i → listed.getD j true = false → (∀ e ∈ oj.after, Region.binds md e = true → e.on ≠ i) → oi.apart ops oj = true) →
      ListedClosed md ops listed → (∀ d ∈ ds, listed.getD d true = false → Region.reachB md ops i n d = true) →
      i ∈ Region.ready md ops listed → QuietAt P ops S oi v a →
      qAny P md ops Q S ds fuel (listed.setIfInBounds i true) (a.put oi.dst v) x → qAny P md ops Q S ds (fuel + 1) listed a x := by
  intro fuel
  induction fuel with
  | zero =>
    intro listed a x _ _ _ hr hy H
    refine ⟨fun h => (by rw [h] at hr; cases hr), fun j hj => ?_⟩
    by_cases hji : j = i
    · subst hji; exact .inr ⟨hid, oi, hi, .inl ⟨v, hy.at x, H⟩⟩
    · have := ready_mono hj hji
      rw [H.1] at this
      cases this
  | succ fuel ih =>
    intro listed a x hfree hc hd hr hy H
    refine ⟨fun h => (by rw [h] at hr; cases hr), fun j hj => ?_⟩
    by_cases hji : j = i
    · subst hji; exact .inr ⟨hid, oi, hi, .inl ⟨v, hy.at x, H⟩⟩
    · obtain ⟨hjun, oj, hoj, hall⟩ := mem_ready.1 hj
      have hiun := (mem_ready.1 hr).1
      have hnot : ∀ e ∈ oj.after, Region.binds md e = true → e.on ≠ i := fun e he hb heq => by
        have h1 := hall e he hb
        rw [heq] at h1
        rcases Nat.lt_or_ge i listed.size with h' | h'
        · simp [h'] at hiun h1; rw [hiun] at h1; cases h1
        · simp [Array.getElem?_eq_none h'] at h1
      have hjd : j ∉ ds := fun hm => Region.reach_not_ready hc (hd j hm hjun) hiun hj
      have hap := hfree j oj hoj hji hjun hnot
      obtain ⟨a1, a2, a3⟩ := Oper.apart_spec hap
      have keepI : ∀ u, QuietAt P ops S oi v (a.put oj.dst u) := fun u => hy.of_same (execOp_put oi (fun cs b => hsel i oi cs b hi) a oj.dst u a3) (wanted_put oi a oj.dst u a3)
      have hfree' : ∀ k ok, ops[k]? = some ok → k ≠ i → (listed.setIfInBounds j true).getD k true = false →
          (∀ e ∈ ok.after, Region.binds md e = true → e.on ≠ i) → oi.apart ops ok = true := fun k ok hk hki hun hno => by
        refine hfree k ok hk hki ?_ hno
        by_cases hjk : j = k
        · subst hjk; exact hjun
        · rw [getD_set_ne true hjk] at hun; exact hun
      have hd' : ∀ d ∈ ds, (listed.setIfInBounds j true).getD d true = false → Region.reachB md ops i n d = true := fun d hm hun => by
        refine hd d hm ?_
        by_cases hjk : j = d
        · subst hjk; exact hjun
        · rw [getD_set_ne true hjk] at hun; exact hun
      have hr' := ready_mono hr (Ne.symm hji)
      have hc' := hc.set hj
      rcases H.2 j (ready_mono hj hji) with ⟨hm, _⟩ | ⟨_, oj', hoj', h2⟩
      · exact absurd hm hjd
      · obtain rfl : oj' = oj := Option.some.inj (hoj'.symm.trans hoj)
        refine .inr ⟨hjd, oj', hoj, ?_⟩
        have se := execOp_put oj' (fun cs b => hsel j oj' cs b hoj) a oi.dst v a1
        have sw := wanted_put oj' a oi.dst v a1
        rcases h2 with ⟨u, hq, hk⟩ | ⟨f, Nw, hn, hk⟩
        · refine .inl ⟨u, hq.of_same se.symm sw.symm, ih _ _ x hfree' hc' hd' hr' (keepI u) ?_⟩
          rw [Array.setIfInBounds_comm _ _ hji, ← Act.put_comm a v u a2]
          exact hk
        · refine .inr ⟨f, Nw, hn.of_same se.symm sw.symm, fun x' hn' => ih _ _ x' hfree' hc' hd' hr' (keepI _) ?_⟩
          rw [Array.setIfInBounds_comm _ _ hji, ← Act.put_comm a v _ a2]
          exact hk x' hn'
/-- The region, begun. -/
theorem q_start {id n : Nat} {a : Act} {w : World} (x : σ) (l : Array Bool) (hm : P.follows .mixedOrders = true) (hn : ops.size = n) (hl : Array.replicate n false = l) (hS : S x w.drew)
    (h : qAny P .any ops Q S ds n l a x) : (Code.region id ops true).wp P Q a w := by
  subst hn
  subst hl
  exact wp_region_any hm (wpAny_of_q _ _ _ x _ hS h)
theorem q_tab {T : Bool × List (List Nat × List Nat)} {B : List Nat} {n : Nat} {l : Array Bool} {a : Act} {x : σ} (hT : rtab md ops = T) (hB : waitsOk T.2 B = true) (h : Aside0 (rtab md ops = T) → Aside0 (waitsOk T.2 B = true) → qAny P md ops Q S ds n l a x) : qAny P md ops Q S ds n l a x := h ⟨hT⟩ ⟨hB⟩
/-- One operation, taken. -/
theorem q_take {i : Nat} {N : Option Tmp} {oi : Oper} {v : Value} {fuel : Nat} {l : Array Bool} {a : Act} {x : σ} (l' : Array Bool) (hi : ops[i]? = some oi) (hN : oi.dst = N) (hc : takeB md ops ds l l' i = true) (hid : i ∉ ds)
    (hq : QuietAt P ops S oi v a) {a' : Act} (ha : a.put N v = a') (h : qAny P md ops Q S ds fuel l' a' x) : qAny P md ops Q S ds (fuel + 1) l a x := by
  subst ha
  subst hN
  simp only [takeB, Bool.and_eq_true, beq_iff_eq] at hc
  obtain ⟨⟨⟨⟨⟨h1, h2⟩, h3⟩, h4⟩, h5⟩, h6⟩ := hc
  subst h6
  exact qAny_first hi (Region.noSelect_spec h1) ops.size hid fuel l a x (Region.free_spec hi h2) (Region.closedB_spec h4)
    (fun d hm hun => by have := List.all_eq_true.1 h5 d hm; rw [hun] at this; simpa using this) (by simpa using h3) hq h
theorem q_done {n : Nat} {l : Array Bool} {a : Act} {x : σ} (hr : (Region.ready md ops l == []) = true) (h : ∀ w, S x w → Q .normal a w) : qAny P md ops Q S ds n l a x := by
  have hr' : Region.ready md ops l = [] := by simpa using hr
  cases n with
  | zero => exact ⟨hr', h⟩
  | succ n => exact ⟨fun _ => h, by rw [hr']; simp⟩
theorem q_new {i : Nat} {N : Option Tmp} {oi : Oper} {f : σ → Value} {fuel : Nat} {l : Array Bool} {a : Act} {x : σ} {Nw : σ → Prop} (l' : Array Bool) (hi : ops[i]? = some oi) (hN : oi.dst = N) (hc : readyB md ops l l' i = true) (hid : i ∉ ds)
    (hn : NewAt P ops S oi f a x Nw) (h : ∀ x', Nw x' → qAny P md ops Q S ds fuel l' (a.put N (f x')) x') : qAny P md ops Q S ds (fuel + 1) l a x := by
  subst hN
  simp only [readyB, Bool.and_eq_true, beq_iff_eq] at hc
  obtain ⟨h1, h2⟩ := hc
  subst h2
  refine ⟨fun h0 => (by rw [h1] at h0; cases h0), fun j hj => ?_⟩
  rw [h1, List.mem_singleton] at hj
  subst hj
  exact .inr ⟨hid, oi, hi, .inr ⟨f, Nw, hn, h⟩⟩
/-- Kinds of quiet operations. -/
theorem quiet_val {oi : Oper} {v : Value} {a : Act} (hw : Region.wanted oi (yielded ops a.tmps) = true) (h : ∀ x w, S x w → (execOp a.eval oi).run P w = .ok (.value v) w) : QuietAt P ops S oi v a :=
  .inl ⟨hw, fun x w hS => by rw [h x w hS]; exact ⟨rfl, hS⟩⟩
theorem new_call {oi : Oper} {v : σ → Value} {a : Act} {x : σ} {Nw : σ → Prop} {f : FuncId} {fn : Func} {xs : Array Operand} {ts : Array TypeId} (hf : P.funcs[f]? = some fn) (hname : (fn.name == "runtime.NumGoroutine") = false) (hb : fn.body.isSome = true) (args : Array Value)
    (hw : Region.wanted oi (yielded ops a.tmps) = true) (hop : oi.op = .call { callee := .value (.func f), args := xs, argTypes := ts }) (hargs : xs.map a.eval = args)
    (h : ∀ w, S x w → Calls P f args w fun e w' => ∃ x', e = .returned (v x') ∧ Nw x' ∧ S x' w') : NewAt P ops S oi v a x Nw := by
  refine ⟨hw, fun w hS => ?_⟩
  have he := enters_ hf hname hb args w
  have hr : (execOp a.eval oi).run P w = .ok (.enter f args) w := by
    unfold execOp
    simp [hop, resolve, Deferred.ofValue, invoke, Act.eval, hargs, he]
  rw [hr]
  exact h w hS
theorem new_val {oi : Oper} {v : σ → Value} {a : Act} {x : σ} {Nw : σ → Prop} (hw : Region.wanted oi (yielded ops a.tmps) = true) (h : ∀ w, S x w → ∃ x' w', (execOp a.eval oi).run P w = .ok (.value (v x')) w' ∧ Nw x' ∧ S x' w') : NewAt P ops S oi v a x Nw :=
  ⟨hw, fun w hS => by obtain ⟨x', w', e, hs⟩ := h w hS; rw [e]; exact ⟨x', rfl, hs⟩⟩
theorem new_skip {oi : Oper} {v : σ → Value} {a : Act} {x : σ} {Nw : σ → Prop} (hw : Region.wanted oi (yielded ops a.tmps) = true) (h : ∀ w, S x w → ∃ x' w', (execOp a.eval oi).run P w = .ok .skip w' ∧ undef = v x' ∧ Nw x' ∧ S x' w') : NewAt P ops S oi v a x Nw :=
  ⟨hw, fun w hS => by obtain ⟨x', w', e, hu, hs⟩ := h w hS; rw [e]; exact ⟨x', hu, hs⟩⟩
theorem quiet_call {oi : Oper} {v : Value} {a : Act} {f : FuncId} {fn : Func} {xs : Array Operand} {ts : Array TypeId} (hf : P.funcs[f]? = some fn) (hname : (fn.name == "runtime.NumGoroutine") = false) (hb : fn.body.isSome = true) (args : Array Value)
    (hw : Region.wanted oi (yielded ops a.tmps) = true) (hop : oi.op = .call { callee := .value (.func f), args := xs, argTypes := ts }) (hargs : xs.map a.eval = args)
    (h : ∀ x w, S x w → Calls P f args w fun e w' => e = .returned v ∧ S x w') : QuietAt P ops S oi v a := by
  refine .inl ⟨hw, fun x w hS => ?_⟩
  have he := enters_ hf hname hb args w
  have hr : (execOp a.eval oi).run P w = .ok (.enter f args) w := by
    unfold execOp
    simp [hop, resolve, Deferred.ofValue, invoke, Act.eval, hargs, he]
  rw [hr]
  exact h x w hS
end
theorem norm_q {P : Program} {ops : Array Oper} {md : Region.Mode} {σ : Type} {S : σ → World → Prop} {Q : Exit → Act → World → Prop} {ds : List Nat} {n : Nat} {l : Array Bool} {a a' : Act} {x : σ} (h : a = a') (k : qAny P md ops Q S ds n l a' x) : qAny P md ops Q S ds n l a x := h ▸ k
end QN
end Go.Proofs.Ytnlneiiccoakjaa.P
