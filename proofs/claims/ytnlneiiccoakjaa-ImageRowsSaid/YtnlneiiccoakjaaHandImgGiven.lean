/-
leveelaw32.given, walked by hand.
Conditions: none.
-/
import Derived.Test.YtnlneiiccoakjaaImgRaw
namespace Go.Proofs.Ytnlneiiccoakjaa.P
open Go.RowKit Go.Proofs.YtnlneiiccoakjaaW.PrintWords Go.Proofs.YtnlneiiccoakjaaW.PrintLast Go.Proofs.YtnlneiiccoakjaaW.PrintMore
attribute [local go_sem] max2_int min2_int max_two min_two max_three min_three max_four min_four
set_option linter.unusedVariables false
set_option linter.unusedSimpArgs false
open Go.Proofs.Ytnlneiiccoakjaa.Num
def giveP (x : S54) : S41 := ⟨x.f0, x.f1, bytesOf x.f2⟩
def leveelaw32_given.f (l : List S54) : Option (List S41) := if l.length ≤ 60 ∧ (l.all fun x => decide (x.f2.size ≤ 140737488355328)) = true then some (l.map giveP) else none
theorem row54_at {w : World} {A : Option Addr} {xs : List S54} (h : Kd.C k54 w A xs.length xs) (i : Nat) (hi : i < xs.length) : ∃ (ad : Addr), A = some ad ∧ w.cell? (ad.add (i * 3)) = some (.int .i64 xs[i].f0) ∧ w.cell? ⟨(ad.add (i * 3)).block, (ad.add (i * 3)).off + 1, none⟩ = some (.int .i64 xs[i].f1) ∧
    w.cell? ⟨(ad.add (i * 3)).block, (ad.add (i * 3)).off + 2, none⟩ = some (.string xs[i].f2) := by
  obtain ⟨ad, h1, h2, h3, h4⟩ := at_T54 h (i : Int) (by omega) (by omega)
  have e : rd_T54 xs (i : Int) = xs[i] := by simp [rd_T54, hi]
  rw [e] at h2 h3 h4
  rw [Int.toNat_natCast] at h2 h3 h4
  exact ⟨ad, h1, h2, h3, h4⟩
theorem conv_GK {w : World} {base : Nat} {v : Value} {l : List S41} {inner : List Value} {x : S54} {st : ByteArray} {k1 n1 : Int} (h : RawG w base v l inner) (hs : st.size ≤ 140737488355328) (hx : x.f0 = k1 ∧ x.f1 = n1 ∧ x.f2 = st) :
    GK (Lib.bytesWorld w 5 st) v.ownBlock (giveP x) [.int .i64 k1, .int .i64 n1, .slice (some ⟨w.heap.size, 0, none⟩) st.size (grownCap w st.size 0 5)] := by
  obtain ⟨rfl, rfl, rfl⟩ := hx
  have hl := bytesOf_length x.f2
  refine ⟨some ⟨w.heap.size, 0, none⟩, grownCap w x.f2.size 0 5, by rw [← hl]; rfl, ?_, fun _ => ⟨⟨w.heap.size, 0, none⟩, rfl, ?_, ?_⟩, ?_⟩
  · show (bytesOf x.f2).length ≤ _
    rw [hl]
    exact grownCap_ge _ _ _ _
  · rw [Lib.bytesWorld_size]; exact Nat.lt_succ_self _
  · intro e
    exact Nat.lt_irrefl _ (own_lt h.1 _ e.symm)
  · show (Kd.int .u8).C _ _ (bytesOf x.f2).length (bytesOf x.f2)
    rw [hl]
    exact Kd.C_of_reads (d := (0 : Int)) (h1 := fun _ => rfl) (bytes_reads w 5 x.f2 (by omega))
/-- An element's cells are appended, at a run. -/
theorem append_row_run {w : World} {base n g2 : Nat} {v : Value} {inner : List Value} {d0 d1 d2 : Value} (ho : w.ownsRow base 41 3 v n inner) (hg : w.heap[g2]? = some (.cells #[d0, d1, d2] 41 (0, 0))) (h1 : ∀ u ∈ [d0, d1, d2], u.oneCell' = true) (hn : n ≤ 1048576) (hb : base ≤ w.heap.size) :
    ∃ v' w', (Builtin.append_ #[26, 26] 26 #[v, .slice (some ⟨g2, 0, none⟩) 1 1]).run Try.prog w = .ok v' w' ∧ w'.ownsRow base 41 3 v' (n + 1) (inner ++ [d0, d1, d2]) ∧ w.grownBy w' v.ownBlock ∧ (v'.ownBlock = v.ownBlock ∨ ∃ b, v'.ownBlock = some b ∧ w.heap.size ≤ b) := by
  obtain ⟨i0, hi, hz, hsz, hby⟩ := info_parts infoRow
  obtain ⟨v', w', h1', h2, h3, _, h5⟩ := run_append_own_at (P := Try.prog) w base 26 26 41 i0 _ 3 40 Try.underlying26 hi hz hsz hby rfl (by decide) v n inner ho ⟨g2, 0, none⟩ 1 1 [d0, d1, d2] rfl
    (fun j u hj => by rw [Addr.add_lit, Nat.zero_add, blk_cell hg]; simpa using hj) h1 (by unfold maxLen; omega) (by omega) hb
  refine ⟨v', w', h1', h2, h3, ?_⟩
  rcases h5 with h5 | h5
  · exact .inl h5
  · exact .inr ⟨_, h5, Nat.le_refl _⟩
theorem append_exec {w w' : World} {o : Oper} {a : Act} {s x : Operand} {v v' : Value} {g2 : Nat} (ho : o.op = .call { callee := .builtin .append, args := #[s, x], argTypes := #[26, 26] }) (hs : a.eval s = v) (hx : a.eval x = .slice (some ⟨g2, 0, none⟩) 1 1) (ht : o.type = 26)
    (hr : (Builtin.append_ #[26, 26] 26 #[v, .slice (some ⟨g2, 0, none⟩) 1 1]).run Try.prog w = .ok v' w') : (execOp a.eval o).run Try.prog w = .ok (.value v') w' := by
  unfold execOp
  simp only [ho, ht, resolve, invoke, builtin, Sem.run_bind, Sem.run_pure, Result.andThen_ok, List.map_toArray, List.map_cons, List.map_nil, hs, hx, hr]
def law32_given.T5 : Bool × List (List Nat × List Nat) := (true, [([], []), ([], []), ([], []), ([1, 2], [1, 2]), ([3], [3]), ([4], [4]), ([], []), ([], []), ([6, 7], [6, 7]), ([8], [8]), ([9], [9]), ([], []), ([], []), ([11, 12], [11, 12]), ([13], [13]), ([14], [14]), ([15], [15]), ([5, 10, 16], [5, 10, 16]), ([17], [17]), ([0, 18], [0, 18]), ([19, 19, 0, 1, 2, 3, 4, 5, 6, 7, 8, 9, 10, 11, 12, 13, 14, 15, 16, 17, 18, 19], [0, 19])])
def law32_given.B5 : List Nat := [0, 0, 0, 6, 14, 30, 0, 0, 192, 448, 960, 0, 0, 6144, 14336, 30720, 63488, 131070, 262142, 524287, 1048575]
theorem law32_given.tab5 : rtab .any (opsOf Try.f15 5) = law32_given.T5 := by kernel_rfl
theorem law32_given.bits5 : waitsOk law32_given.T5.2 law32_given.B5 = true := by kernel_rfl
set_option maxHeartbeats 16000000 in
set_option maxRecDepth 100000 in
theorem leveelaw32_given.calls (A0 : Option Addr) (c0 : Nat) (l0 : List S54) (r : List S41) (w : World) (hr0 : Kd.C k54 w A0 l0.length l0) (hc0 : l0.length ≤ c0) (h : leveelaw32_given.f l0 = some r) :
    Calls Try.prog 15 #[.slice A0 l0.length c0] w fun e w' => ∃ A c, e = .returned (.slice A r.length c) ∧ r.length ≤ c ∧ Kd.C k41 w' A r.length r ∧ Below w.heap.size w w' := by
  unfold leveelaw32_given.f at h
  split at h
  case isFalse => exact absurd h (by simp)
  rename_i hg
  obtain ⟨h60, hsz⟩ := hg
  obtain rfl := Option.some.inj h
  clear h
  have HB := Aside0.mk (Below.refl w.heap.size w)
  have HR0 := Aside0.mk hr0
  obtain ⟨n, hn⟩ : ∃ n, n = l0.length := ⟨_, rfl⟩
  have HN : Aside0 (n = l0.length ∧ n ≤ 60) := ⟨hn, by omega⟩
  have HSA : Aside0 (∀ x ∈ l0, x.f2.size ≤ 140737488355328) := ⟨fun x hx => of_decide_eq_true (List.all_eq_true.mp hsz x hx)⟩
  rw [← hn]
  clear hr0 hsz hn h60 hc0
  go_enter Try.func15, Try.ntmps15
  go_wp2
  go_loopw [3, 4] (fun v3 v4 wr => ∃ (i : Nat) (u : Value) (inner : List Value), i ≤ n ∧ v3 = u ∧ v4 = .int .i64 i ∧ Aside0 (RawG wr w.heap.size u ((l0.take i).map giveP) inner) ∧ Aside0 (Below w.heap.size w wr)) (fun _ v4 _ => n - (intOf v4).toNat)
  case atStart => exact ⟨0, _, [], by omega, rfl, rfl, ⟨RawG.nil _ _⟩, HB⟩
  case round =>
    clear HB
    obtain ⟨i, u, inner, hi, hu, rfl, HG, HB⟩ := hrel
    have hu' := hu.symm
    clear hu
    subst hu'
    obtain ⟨Au, cu, eu, _, _⟩ := HG.out.reads
    subst eu
    obtain ⟨L, hL⟩ : ∃ L, L = (l0.take i).map giveP := ⟨_, rfl⟩
    rw [← hL] at HG ⊢
    obtain ⟨ml, hml⟩ : ∃ ml, ml = L.length := ⟨_, rfl⟩
    have hnb : n ≤ 60 := HN.out.2
    have HML : Aside0 (L.length = ml ∧ ml ≤ 1048576) := ⟨hml.symm, by rw [hml, hL, List.length_map, List.length_take]; omega⟩
    have HLL := Aside0.mk hL
    rw [← hml] at HG ⊢
    clear hL hml
    by_cases hin : i < n
    · have hil : i < l0.length := by have := HN.out; omega
      obtain ⟨ax, eA, hx0, hx1, hx2⟩ := row54_at HR0.out i hil
      subst eA
      obtain ⟨x, ex⟩ : ∃ x, x = l0[i] := ⟨_, rfl⟩
      rw [← ex] at hx0 hx1 hx2
      have HSZ' : x.f2.size ≤ 140737488355328 := HSA.out x (by rw [ex]; exact List.getElem_mem hil)
      have HNX : Aside0 ((l0.take (i + 1)).map giveP = L ++ [giveP x]) := ⟨by rw [List.take_succ_eq_append_getElem hil, List.map_append, ← HLL.out, ← ex]; rfl⟩
      obtain ⟨k1, hk1⟩ : ∃ k, x.f0 = k := ⟨_, rfl⟩
      obtain ⟨n1, hn1⟩ : ∃ k, x.f1 = k := ⟨_, rfl⟩
      obtain ⟨st, hst⟩ : ∃ k, x.f2 = k := ⟨_, rfl⟩
      have HXE := Aside0.mk (⟨hk1, hn1, hst⟩ : x.f0 = k1 ∧ x.f1 = n1 ∧ x.f2 = st)
      rw [hk1] at hx0
      rw [hn1] at hx1
      rw [hst] at hx2 HSZ'
      have HSZ := Aside0.mk HSZ'
      clear hk1 hn1 hst HSZ' ex hil
      go_wp2
      have ch : True := trivial
      clear ch
      refine QN.q_start (n := 21) (S := fun (x : (World → Prop) × Value) w_ => Below w.heap.size w w_ ∧ x.1 w_) (ds := []) (fun w_ => RawG w_ w.heap.size (.slice Au ml cu) L inner, undef) #[false, false, false, false, false, false, false, false, false, false, false, false, false, false, false, false, false, false, false, false, false] (by kernel_rfl) rfl rfl ⟨below_drew HB.out, RawG.below HG.out (below_drew (Below.refl _ _))⟩ ?_
      clear HB HG
      refine QN.q_tab law32_given.tab5 law32_given.bits5 (fun HT_ HW_ => ?_)
      refine QN.q_take (i := 0) (N := some 11) (v := ?_) (a' := ?_) #[true, false, false, false, false, false, false, false, false, false, false, false, false, false, false, false, false, false, false, false, false] rfl rfl (take_ofW HT_.out HW_.out (by kernel_rfl)) (by decide) (QN.quiet_val (by rfl) ?_) ?_ ?_
      rotate_left
      · intro x w_ _
        go_simp
        with_reducible rfl
      rotate_left
      · simp only [Act.put, List.setIfInBounds_toArray, List.set_cons_zero, List.set_cons_succ, i64_w, i32_w, List.getElem_toArray, List.getElem_cons_succ, List.getElem_cons_zero]
        rfl
      refine QN.q_take (i := 1) (N := some 12) (v := ?_) (a' := ?_) #[true, true, false, false, false, false, false, false, false, false, false, false, false, false, false, false, false, false, false, false, false] rfl rfl (take_ofW HT_.out HW_.out (by kernel_rfl)) (by decide) (QN.quiet_val (by rfl) ?_) ?_ ?_
      rotate_left
      · intro x w_ _
        go_simp
        with_reducible rfl
      rotate_left
      · simp only [Act.put, List.setIfInBounds_toArray, List.set_cons_zero, List.set_cons_succ, i64_w, i32_w, List.getElem_toArray, List.getElem_cons_succ, List.getElem_cons_zero]
        rfl
      refine QN.q_take (i := 2) (N := some 13) (v := ?_) (a' := ?_) #[true, true, true, false, false, false, false, false, false, false, false, false, false, false, false, false, false, false, false, false, false] rfl rfl (take_ofW HT_.out HW_.out (by kernel_rfl)) (by decide) (QN.quiet_val (by rfl) ?_) ?_ ?_
      rotate_left
      · intro x w_ _
        go_simp
        with_reducible rfl
      rotate_left
      · simp only [Act.put, List.setIfInBounds_toArray, List.set_cons_zero, List.set_cons_succ, i64_w, i32_w, List.getElem_toArray, List.getElem_cons_succ, List.getElem_cons_zero]
        rfl
      refine QN.q_take (i := 3) (N := some 14) (v := ?_) (a' := ?_) #[true, true, true, true, false, false, false, false, false, false, false, false, false, false, false, false, false, false, false, false, false] rfl rfl (take_ofW HT_.out HW_.out (by kernel_rfl)) (by decide) (QN.quiet_val (by rfl) ?_) ?_ ?_
      rotate_left
      · intro x w_ _
        go_simp
        with_reducible rfl
      rotate_left
      · simp only [Act.put, List.setIfInBounds_toArray, List.set_cons_zero, List.set_cons_succ, i64_w, i32_w, List.getElem_toArray, List.getElem_cons_succ, List.getElem_cons_zero]
        rfl
      refine QN.q_take (i := 4) (N := some 15) (v := ?_) (a' := ?_) #[true, true, true, true, true, false, false, false, false, false, false, false, false, false, false, false, false, false, false, false, false] rfl rfl (take_ofW HT_.out HW_.out (by kernel_rfl)) (by decide) (QN.quiet_val (by rfl) ?_) ?_ ?_
      rotate_left
      · intro x w_ _
        go_simp
        with_reducible rfl
      rotate_left
      · simp only [Act.put, List.setIfInBounds_toArray, List.set_cons_zero, List.set_cons_succ, i64_w, i32_w, List.getElem_toArray, List.getElem_cons_succ, List.getElem_cons_zero]
        rfl
      refine QN.q_take (i := 5) (N := some 16) (v := ?_) (a' := ?_) #[true, true, true, true, true, true, false, false, false, false, false, false, false, false, false, false, false, false, false, false, false] rfl rfl (take_ofW HT_.out HW_.out (by kernel_rfl)) (by decide) (QN.quiet_val (by rfl) ?_) ?_ ?_
      rotate_left
      · rintro x w_ ⟨hB, _⟩
        have c0_ := cell_under hx0 hB
        go_simp
        with_reducible rfl
      rotate_left
      · simp only [Act.put, List.setIfInBounds_toArray, List.set_cons_zero, List.set_cons_succ, i64_w, i32_w, List.getElem_toArray, List.getElem_cons_succ, List.getElem_cons_zero]
        rfl
      refine QN.q_take (i := 6) (N := some 17) (v := ?_) (a' := ?_) #[true, true, true, true, true, true, true, false, false, false, false, false, false, false, false, false, false, false, false, false, false] rfl rfl (take_ofW HT_.out HW_.out (by kernel_rfl)) (by decide) (QN.quiet_val (by rfl) ?_) ?_ ?_
      rotate_left
      · intro x w_ _
        go_simp
        with_reducible rfl
      rotate_left
      · simp only [Act.put, List.setIfInBounds_toArray, List.set_cons_zero, List.set_cons_succ, i64_w, i32_w, List.getElem_toArray, List.getElem_cons_succ, List.getElem_cons_zero]
        rfl
      refine QN.q_take (i := 7) (N := some 18) (v := ?_) (a' := ?_) #[true, true, true, true, true, true, true, true, false, false, false, false, false, false, false, false, false, false, false, false, false] rfl rfl (take_ofW HT_.out HW_.out (by kernel_rfl)) (by decide) (QN.quiet_val (by rfl) ?_) ?_ ?_
      rotate_left
      · intro x w_ _
        go_simp
        with_reducible rfl
      rotate_left
      · simp only [Act.put, List.setIfInBounds_toArray, List.set_cons_zero, List.set_cons_succ, i64_w, i32_w, List.getElem_toArray, List.getElem_cons_succ, List.getElem_cons_zero]
        rfl
      refine QN.q_take (i := 8) (N := some 19) (v := ?_) (a' := ?_) #[true, true, true, true, true, true, true, true, true, false, false, false, false, false, false, false, false, false, false, false, false] rfl rfl (take_ofW HT_.out HW_.out (by kernel_rfl)) (by decide) (QN.quiet_val (by rfl) ?_) ?_ ?_
      rotate_left
      · intro x w_ _
        go_simp
        with_reducible rfl
      rotate_left
      · simp only [Act.put, List.setIfInBounds_toArray, List.set_cons_zero, List.set_cons_succ, i64_w, i32_w, List.getElem_toArray, List.getElem_cons_succ, List.getElem_cons_zero]
        rfl
      refine QN.q_take (i := 9) (N := some 20) (v := ?_) (a' := ?_) #[true, true, true, true, true, true, true, true, true, true, false, false, false, false, false, false, false, false, false, false, false] rfl rfl (take_ofW HT_.out HW_.out (by kernel_rfl)) (by decide) (QN.quiet_val (by rfl) ?_) ?_ ?_
      rotate_left
      · intro x w_ _
        go_simp
        with_reducible rfl
      rotate_left
      · simp only [Act.put, List.setIfInBounds_toArray, List.set_cons_zero, List.set_cons_succ, i64_w, i32_w, List.getElem_toArray, List.getElem_cons_succ, List.getElem_cons_zero]
        rfl
      refine QN.q_take (i := 10) (N := some 21) (v := ?_) (a' := ?_) #[true, true, true, true, true, true, true, true, true, true, true, false, false, false, false, false, false, false, false, false, false] rfl rfl (take_ofW HT_.out HW_.out (by kernel_rfl)) (by decide) (QN.quiet_val (by rfl) ?_) ?_ ?_
      rotate_left
      · rintro x w_ ⟨hB, _⟩
        have c1_ := cell_under hx1 hB
        go_simp
        with_reducible rfl
      rotate_left
      · simp only [Act.put, List.setIfInBounds_toArray, List.set_cons_zero, List.set_cons_succ, i64_w, i32_w, List.getElem_toArray, List.getElem_cons_succ, List.getElem_cons_zero]
        rfl
      refine QN.q_take (i := 11) (N := some 22) (v := ?_) (a' := ?_) #[true, true, true, true, true, true, true, true, true, true, true, true, false, false, false, false, false, false, false, false, false] rfl rfl (take_ofW HT_.out HW_.out (by kernel_rfl)) (by decide) (QN.quiet_val (by rfl) ?_) ?_ ?_
      rotate_left
      · intro x w_ _
        go_simp
        with_reducible rfl
      rotate_left
      · simp only [Act.put, List.setIfInBounds_toArray, List.set_cons_zero, List.set_cons_succ, i64_w, i32_w, List.getElem_toArray, List.getElem_cons_succ, List.getElem_cons_zero]
        rfl
      refine QN.q_take (i := 12) (N := some 23) (v := ?_) (a' := ?_) #[true, true, true, true, true, true, true, true, true, true, true, true, true, false, false, false, false, false, false, false, false] rfl rfl (take_ofW HT_.out HW_.out (by kernel_rfl)) (by decide) (QN.quiet_val (by rfl) ?_) ?_ ?_
      rotate_left
      · intro x w_ _
        go_simp
        with_reducible rfl
      rotate_left
      · simp only [Act.put, List.setIfInBounds_toArray, List.set_cons_zero, List.set_cons_succ, i64_w, i32_w, List.getElem_toArray, List.getElem_cons_succ, List.getElem_cons_zero]
        rfl
      refine QN.q_take (i := 13) (N := some 24) (v := ?_) (a' := ?_) #[true, true, true, true, true, true, true, true, true, true, true, true, true, true, false, false, false, false, false, false, false] rfl rfl (take_ofW HT_.out HW_.out (by kernel_rfl)) (by decide) (QN.quiet_val (by rfl) ?_) ?_ ?_
      rotate_left
      · intro x w_ _
        go_simp
        with_reducible rfl
      rotate_left
      · simp only [Act.put, List.setIfInBounds_toArray, List.set_cons_zero, List.set_cons_succ, i64_w, i32_w, List.getElem_toArray, List.getElem_cons_succ, List.getElem_cons_zero]
        rfl
      refine QN.q_take (i := 14) (N := some 25) (v := ?_) (a' := ?_) #[true, true, true, true, true, true, true, true, true, true, true, true, true, true, true, false, false, false, false, false, false] rfl rfl (take_ofW HT_.out HW_.out (by kernel_rfl)) (by decide) (QN.quiet_val (by rfl) ?_) ?_ ?_
      rotate_left
      · intro x w_ _
        go_simp
        with_reducible rfl
      rotate_left
      · simp only [Act.put, List.setIfInBounds_toArray, List.set_cons_zero, List.set_cons_succ, i64_w, i32_w, List.getElem_toArray, List.getElem_cons_succ, List.getElem_cons_zero]
        rfl
      refine QN.q_take (i := 15) (N := some 26) (v := ?_) (a' := ?_) #[true, true, true, true, true, true, true, true, true, true, true, true, true, true, true, true, false, false, false, false, false] rfl rfl (take_ofW HT_.out HW_.out (by kernel_rfl)) (by decide) (QN.quiet_val (by rfl) ?_) ?_ ?_
      rotate_left
      · rintro x w_ ⟨hB, _⟩
        have c2_ := cell_under hx2 hB
        go_simp
        with_reducible rfl
      rotate_left
      · simp only [Act.put, List.setIfInBounds_toArray, List.set_cons_zero, List.set_cons_succ, i64_w, i32_w, List.getElem_toArray, List.getElem_cons_succ, List.getElem_cons_zero]
        rfl
      refine QN.q_new (i := 16) (N := some 27) (f := Prod.snd) (Nw := fun y => ∃ (b c : Nat), y = (fun W => RawG W w.heap.size (.slice Au ml cu) L inner ∧ GK W (Value.slice Au ml cu).ownBlock (giveP x) [.int .i64 k1, .int .i64 n1, .slice (some ⟨b, 0, none⟩) st.size c], .slice (some ⟨b, 0, none⟩) st.size c)) #[true, true, true, true, true, true, true, true, true, true, true, true, true, true, true, true, true, false, false, false, false] rfl rfl (one_of HT_.out (by kernel_rfl)) (by decide) (QN.new_val (by rfl) ?_) ?_
      · rintro w_ ⟨hB, hG⟩
        refine ⟨(fun W => RawG W w.heap.size (.slice Au ml cu) L inner ∧ GK W (Value.slice Au ml cu).ownBlock (giveP x) [.int .i64 k1, .int .i64 n1, .slice (some ⟨w_.heap.size, 0, none⟩) st.size (grownCap w_ st.size 0 5)], .slice (some ⟨w_.heap.size, 0, none⟩) st.size (grownCap w_ st.size 0 5)), Lib.bytesWorld w_ 5 st, ?_, ⟨_, _, rfl⟩, bytes_below hB hB.size _ _, RawG.below hG (bytes_below (Below.refl _ _) (Nat.le_refl _) _ _), conv_GK hG HSZ.out HXE.out⟩
        have q := print_bytes (P := Try.prog) 9 22 5 Try.underlying9 Try.underlying22 Try.underlying5 st w_
        go_simp
      rintro _ ⟨b, c, rfl⟩
      refine QN.norm_q (a' := ?_) ?_ ?_
      rotate_left
      · show Act.put _ (some 27) (.slice (some ⟨b, 0, none⟩) st.size c) = _
        simp only [Act.put, List.setIfInBounds_toArray, List.set_cons_zero, List.set_cons_succ, i64_w, i32_w]
        rfl
      refine QN.q_take (i := 17) (N := some 28) (v := ?_) (a' := ?_) #[true, true, true, true, true, true, true, true, true, true, true, true, true, true, true, true, true, true, false, false, false] rfl rfl (take_ofW HT_.out HW_.out (by kernel_rfl)) (by decide) (QN.quiet_val (by rfl) ?_) ?_ ?_
      rotate_left
      · intro x w_ _
        go_simp
        with_reducible rfl
      rotate_left
      · simp only [Act.put, List.setIfInBounds_toArray, List.set_cons_zero, List.set_cons_succ, i64_w, i32_w, List.getElem_toArray, List.getElem_cons_succ, List.getElem_cons_zero]
        rfl
      refine QN.q_new (i := 18) (N := some 29) (f := Prod.snd) (Nw := fun y => ∃ (g2 : Nat), y = (fun W => (RawG W w.heap.size (.slice Au ml cu) L inner ∧ GK W (Value.slice Au ml cu).ownBlock (giveP x) [.int .i64 k1, .int .i64 n1, .slice (some ⟨b, 0, none⟩) st.size c]) ∧ W.heap[g2]? = some (.cells #[.int .i64 k1, .int .i64 n1, .slice (some ⟨b, 0, none⟩) st.size c] 41 (0, 0)), .slice (some ⟨g2, 0, none⟩) 1 1)) #[true, true, true, true, true, true, true, true, true, true, true, true, true, true, true, true, true, true, true, false, false] rfl rfl (one_of HT_.out (by kernel_rfl)) (by decide) (QN.new_val (by rfl) ?_) ?_
      · rintro w_ ⟨hB, hG, hK⟩
        refine ⟨(fun W => (RawG W w.heap.size (.slice Au ml cu) L inner ∧ GK W (Value.slice Au ml cu).ownBlock (giveP x) [.int .i64 k1, .int .i64 n1, .slice (some ⟨b, 0, none⟩) st.size c]) ∧ W.heap[w_.heap.size]? = some (.cells #[.int .i64 k1, .int .i64 n1, .slice (some ⟨b, 0, none⟩) st.size c] 41 (0, 0)), .slice (some ⟨w_.heap.size, 0, none⟩) 1 1), w_.alloc (.cells #[.int .i64 k1, .int .i64 n1, .slice (some ⟨b, 0, none⟩) st.size c] 41 (0, 0)), ?_, ⟨_, rfl⟩, below_alloc hB _, ⟨RawG.below hG (below_alloc (Below.refl _ _) _), hK.move (fun q hq _ => (below_alloc (Below.refl w_.heap.size w_) _).block q hq) (below_alloc (Below.refl w_.heap.size w_) _).size (fun _ _ e => e)⟩, blk_new _ _⟩
        go_simp
        try rfl
      rintro _ ⟨g2, rfl⟩
      refine QN.norm_q (a' := ?_) ?_ ?_
      rotate_left
      · show Act.put _ (some 29) (.slice (some ⟨g2, 0, none⟩) 1 1) = _
        simp only [Act.put, List.setIfInBounds_toArray, List.set_cons_zero, List.set_cons_succ, i64_w, i32_w]
        rfl
      refine QN.q_new (i := 19) (N := some 30) (f := Prod.snd) (Nw := fun y => ∃ (v1 : Value), y = (fun W => ∃ inner', RawG W w.heap.size v1 (L ++ [giveP x]) inner', v1)) #[true, true, true, true, true, true, true, true, true, true, true, true, true, true, true, true, true, true, true, true, false] rfl rfl (one_of HT_.out (by kernel_rfl)) (by decide) (QN.new_val (by rfl) ?_) ?_
      · rintro w_ ⟨hB, ⟨hG, hK⟩, h2⟩
        obtain ⟨v1, w1, hr, ho, hg, hat⟩ := append_row_run hG.1 h2 (by intro u hu; simp at hu; rcases hu with rfl | rfl | rfl <;> rfl) (by rw [HML.out.1]; exact HML.out.2) hB.size
        refine ⟨(fun W => ∃ inner', RawG W w.heap.size v1 (L ++ [giveP x]) inner', v1), w1, ?_, ⟨v1, rfl⟩, hB.grown hg hB.size (fun k hk => own_base hG.1 k hk), _, RawG.snoc hG hK rfl ho hg hat⟩
        exact append_exec rfl rfl rfl rfl hr
      rintro _ ⟨v1, rfl⟩
      refine QN.norm_q (a' := ?_) ?_ ?_
      rotate_left
      · show Act.put _ (some 30) (v1) = _
        simp only [Act.put, List.setIfInBounds_toArray, List.set_cons_zero, List.set_cons_succ, i64_w, i32_w]
        rfl
      refine QN.q_take (i := 20) (N := some 3) (v := ?_) (a' := ?_) #[true, true, true, true, true, true, true, true, true, true, true, true, true, true, true, true, true, true, true, true, true] rfl rfl (take_ofW HT_.out HW_.out (by kernel_rfl)) (by decide) (QN.quiet_val (by rfl) ?_) ?_ ?_
      rotate_left
      · intro x w_ _
        go_simp
        with_reducible rfl
      rotate_left
      · simp only [Act.put, List.setIfInBounds_toArray, List.set_cons_zero, List.set_cons_succ, i64_w, i32_w, List.getElem_toArray, List.getElem_cons_succ, List.getElem_cons_zero]
        rfl
      refine QN.q_done (done_of HT_.out (by kernel_rfl)) ?_
      rintro w_ ⟨hB, inner', hG⟩
      have HB := Aside0.mk hB
      have HG := Aside0.mk hG
      clear hB hG
      go_wp2
      go_roundw
      case rel => exact ⟨i + 1, v1, inner', by omega, rfl, by go_num, ⟨by rw [HNX.out]; exact HG.out⟩, HB⟩
      case measure => simp [intOf]; omega
    · have HE : Aside0 (L = l0.map giveP) := ⟨by rw [HLL.out, List.take_of_length_le (by have := HN.out; omega)]⟩
      go_wp2
      go_ret
      obtain ⟨A, c, e, hle, hC⟩ := HG.out.reads
      injection e with e1 e2 e3
      subst e1
      subst e3
      rw [← HE.out]
      exact ⟨_, _, by rw [HML.out.1]; rfl, hle, hC, HB.out⟩
end Go.Proofs.Ytnlneiiccoakjaa.P
